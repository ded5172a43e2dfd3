import Derived.Test.YtnphdacibageiaaGreatRunPkAdds
import Derived.Laws.CopyOwn
set_option linter.all false
set_option maxRecDepth 1000000
set_option maxHeartbeats 12800000
namespace Go.Proofs.YtnphdacibageiaaGreat
section
open Go.RowKit Go.Maps
theorem step_any (b0 hw hl B nB n cA G:Nat) (A:Option Addr) (code:List In) (s:ByteArray) (p:Nat) (Q:Int→Prop) (w:World) (v:Value) (W:List Pw) (Wn:List Nat) (S:Int→Bool)
  (hn:n=code.length) (hn2:n≤2000) (hps:∀v∈code,v.ps.length≤100000) (hs:(s.size:Int)≤4096) (hp:p≤s.size) (k0:w.cell? ⟨hw,0,none⟩=some (.int .i64 G)) (k1:w.cell? ⟨hw,1,none⟩=some (.slice A n cA)) (k2:w.cell? ⟨hw,2,none⟩=some (.string s)) (hr:Ri w A code)
  (hL:LsM b0 hl B nB w v W S) (hW:W.map (·.pc)=Wn.map (fun k:Nat=>(k:Int))) (hWo:∀k∈Wn,∃h:k<code.length,code[k].op=1∨code[k].op=7) (hnB:nB≤4000) (hQ0:∀k∈Wn,SelB code s.data.toList p k→Q ((k:Int)+1)) (hQ:∀(k:Nat) x,Q k→x∈succE code s.data.toList k (p+1)→Q x) :
  Calls Tryz.prog 84 #[.pointer (some ⟨hw,0,none⟩), .pointer (some ⟨hl,0,none⟩), .int .i64 p] w (RetSt n code s.data.toList p Q Wn w):=by
 obtain ⟨A0,c0,hv⟩:=own_form hL.own
 subst hv
 obtain ⟨wS,hwS⟩:∃wS,wS=(w.alloc (.map #[] 0)).alloc (.cells #[.slice none 0 0, .map (some w.heap.size)] 123):=⟨_,rfl⟩
 have gS:Gr w wS:=by rw[hwS];exact Gr.alloc (Gr.alloc (Gr.refl w) _) _
 have R0:StR n code s.data.toList p Q Wn w 0 wS:=by rw[hwS];exact StR.start n code s.data.toList p Q Wn w
 have HwS:=Lib.hid hwS
 have hlz:=hL.hz
 have l0:=(Below.cell gS (p:=⟨hl,0,none⟩) hlz).trans hL.c0
 have hWl:W.length≤4000:=Nat.le_trans hL.wl hnB
 have hWli:(W.length:Int)≤4000:=by omega
 have hlen:W.length=Wn.length:=by have:=congrArg List.length hW;simpa using this
 have hw0:hw<w.heap.size:=World.block_lt_of_cell? _ _ k1
 have hpi:(p:Int)≤(s.size:Int):=by omega
 have HL:=Lib.hid hL
 have HR:=Lib.hid hr
 have HCC:=Lib.hid (And.intro hn hlen)
 have HWW:=Lib.hid (And.intro hW hWo)
 have HPS:=Lib.hid hps
 have HQ:=Lib.hid (And.intro hQ0 hQ)
 have HK:=Lib.hid (And.intro k0 (And.intro k1 k2))
 have HR0:=Lib.hid R0
 have HGS:=Lib.hid gS
 clear hwS gS R0 hL hr hn hW hWo hps hQ0 hQ k0 k1 k2 hlen hnB
 have hmm:= @run_makeMap Tryz.prog
 go_enter Tryz.func84,Tryz.ntmps84
 go_upto_region 2 with (fail)
 rw[←HwS.out]
 clear HwS hmm
 go_wp2
 go_loopw [21] (fun i wr=>∃j:Nat,j≤W.length∧i= .int .i64 j∧StR n code s.data.toList p Q Wn w j wr) (fun i _=>W.length-(intOf i).toNat)
 case atStart=>exact ⟨0,Nat.zero_le _,rfl,HR0.out⟩
 case round=>
  obtain ⟨j,hj,rfl,hR⟩:=hrel
  clear l0
  by_cases hlt:j<W.length
  ·
   have hji:(j:Int)<(W.length:Int):=by omega
   obtain ⟨v',W',Wn',S',nB',hI⟩:=hR
   obtain ⟨g,cv,hv,hcl,hcm,hgz,t0,t1⟩:=way_cells (own_grU HL.out.own hI.gr) hlt
   injection hv with hv1 hv2 hv3
   subst hv1
   subst hv3
   have hcli:(W.length:Int)≤(c0:Int):=by omega
   have hcmi:(c0:Int)≤9223372036854775807:=by unfold maxLen at hcm;omega
   have hjn:Wn[j]?=some (Wn[j]'(by rw[←HCC.out.2];exact hlt)):=List.getElem?_eq_getElem _
   have hpc:W[j].pc=((Wn[j]'(by rw[←HCC.out.2];exact hlt):Nat):Int):=by
    have h1:=congrArg (fun l=>l[j]?) HWW.out.1
    simp only[List.getElem?_map,List.getElem?_eq_getElem hlt,hjn,Option.map_some] at h1
    injection h1
   have hkm:Wn[j]'(by rw[←HCC.out.2];exact hlt)∈Wn:=List.getElem_mem _
   have hpl:=HL.out.pl W[j] (List.getElem_mem hlt)
   rw[hpc] at t1
   generalize Wn[j]'(by rw[←HCC.out.2];exact hlt)=k at t1 hjn hkm hpc
   obtain ⟨hkl,hop⟩:=HWW.out.2 k hkm
   have hkn:k<n:=by rw[HCC.out.1];exact hkl
   have hkni:(k:Int)<(n:Int):=by omega
   obtain ⟨a,ms,⟨cs,hsv,hm0,hm3,haz,hac⟩,hex⟩:=hpl
   have HPX:Hid (PlX (fun x=>x=hl∨x=B∨some x=(Value.slice (some ⟨g,0,none⟩) W.length c0).ownBlock) w W[j].sv):=Lib.hid ⟨a,ms,⟨cs,hsv,hm0,hm3,haz,hac⟩,hex⟩
   have HPL:=Lib.hid (show Plc w (.slice (some ⟨a,0,none⟩) ms cs) a ms from ⟨cs,rfl,hm0,hm3,haz,hac⟩)
   rw[hsv] at t0 HPX
   have HKM:=Lib.hid hkm
   have HJN:=Lib.hid hjn
   have HI:=Lib.hid hI
   have HKL:=Lib.hid hkl
   have hwr:hw<wr.heap.size:=Nat.lt_of_lt_of_le hw0 hI.gr.size
   clear hcl hcm hgz hjn hkm hpc hac hm0 hm3 haz hsv hex hv2 hI
   go_upto_region 5 with (fail)
   obtain ⟨wB,hwB⟩:∃wB,wB=wr.alloc (.cells #[.slice (some ⟨a,0,none⟩) ms cs, .int .i64 (k:Nat)] 128):=⟨_,rfl⟩
   have gB:Gr wr wB:=by rw[hwB];exact Gr.alloc (Gr.refl wr) _
   have e0:wB.cell? ⟨wr.heap.size,0,none⟩=some (.slice (some ⟨a,0,none⟩) ms cs):=by rw[hwB];go_simp
   have e1:wB.cell? ⟨wr.heap.size,1,none⟩=some (.int .i64 (k:Nat)):=by rw[hwB];go_simp
   have hzwB:wr.heap.size<wB.heap.size:=by rw[hwB];simp
   rw[←hwB]
   clear hwB t0 t1
   have g0B:=HI.out.gr.trans gB
   have k1B:=(Below.cell g0B (p:=⟨hw,1,none⟩) hw0).trans HK.out.2.1
   have hhwB:hw<wB.heap.size:=Nat.lt_of_lt_of_le hw0 g0B.size
   obtain ⟨ad,hA,hadlt,d0,d1,d2,d3⟩:=Ri.at (HR.out.gr g0B) HKL.out
   have HAB:Hid (ad.block<w.heap.size):=Lib.hid (by obtain ⟨ad',e,hb, -⟩:=HR.out.2 (by rw[←HCC.out.1];omega);rw[hA] at e;injection e with e;rw[e];exact hb)
   subst hA
   obtain ⟨vi,hvi⟩:∃vi,vi=code[k]'HKL.out:=⟨_,rfl⟩
   have hop':=hop
   rw[←hvi] at d0 d1 d2 d3 hop'
   obtain ⟨op,x,y,ps⟩:=vi
   simp only at d0 d1 d2 d3 hop'
   have HVV:=Lib.hid hvi.symm
   have HGB:=Lib.hid gB
   generalize wr.heap.size=Bw at e0 e1 hzwB ⊢
   clear hvi g0B hop gB
   refine wp_region_Z 10 (fun W=>Gr wB W) (by kernel_rfl) ?_
   have hS0:Gr wB wB.drew:=Gr.drew (Gr.refl _)
   refine zu 0 rfl hS0 (fun W hS=>by go_simp;rfl) ?_
   refine zu 1 rfl hS0 (fun W hS=>by go_simp;rfl) ?_
   refine zu 2 rfl hS0 (fun W hS=>by go_simp;rfl) ?_
   refine zu 3 rfl hS0 (fun W hS=>by go_simp;rfl) ?_
   refine zu 4 rfl hS0 (fun W hS=>by have g1:=(Below.cell hS (p:=⟨hw,1,none⟩) hhwB).trans k1B;go_simp;rfl) ?_
   refine zu 5 rfl hS0 (fun W hS=>by go_simp;rfl) ?_
   refine zu 6 rfl hS0 (fun W hS=>by have g1:=(Below.cell hS (p:=⟨Bw,1,none⟩) hzwB).trans e1;go_simp;rfl) ?_
   refine zu 7 rfl hS0 (fun W hS=>by go_simp;rfl) ?_
   refine zu 8 rfl hS0 (fun W hS=>by have g0:=(Below.cell hS (p:=ad.add (k*4)) (by rw[add_blk];exact hadlt)).trans d0;have g1:=(Below.cell hS (p:=⟨(ad.add (k*4)).block,(ad.add (k*4)).off+1,none⟩) (by rw[add_blk];exact hadlt)).trans d1;have g2:=(Below.cell hS (p:=⟨(ad.add (k*4)).block,(ad.add (k*4)).off+2,none⟩) (by rw[add_blk];exact hadlt)).trans d2;have g3:=(Below.cell hS (p:=⟨(ad.add (k*4)).block,(ad.add (k*4)).off+3,none⟩) (by rw[add_blk];exact hadlt)).trans d3;go_simp;rfl) ?_
   refine zs 9 rfl (fun K hK=>?_)
   go_wp2_with fail
   refine hK.out _ _ (fun hnz=>?s10) (fun _=>?r10)
   case s10=>exact Gr.alloc hS0 _
   clear hK K
   try simp only[Pu,List.getElem_toArray,List.getElem_cons_succ,List.getElem_cons_zero]
   refine zs 10 rfl (fun K hK=>?_)
   go_wp2_with fail
   refine hK.out _ _ (fun hnz=>?s11) (fun _=>?r11)
   case s11=>exact absurd rfl hnz
   clear hK K
   try simp only[Pu,List.getElem_toArray,List.getElem_cons_succ,List.getElem_cons_zero]
   refine wpAnyZ_done (by kernel_rfl) ?_ _
   obtain ⟨wC,hwC⟩:∃wC,wC=(wB.alloc (.cells #[.int .i64 op, .int .i64 x, .int .i64 y, .string ⟨ps.toArray⟩] 85)).drew:=⟨_,rfl⟩
   have gC:Gr wB wC:=by rw[hwC];exact Gr.drew (Gr.alloc (Gr.refl wB) _)
   have q0:wC.cell? ⟨wB.heap.size,0,none⟩=some (.int .i64 op):=by rw[hwC];go_simp
   have q3:wC.cell? ⟨wB.heap.size,3,none⟩=some (.string ⟨ps.toArray⟩):=by rw[hwC];go_simp
   have hzqC:wB.heap.size<wC.heap.size:=by rw[hwC];simp
   rw[←hwC]
   clear hwC hS0 d0 d1 d2 d3 hadlt
   have e0C:=(Below.cell gC (p:=⟨Bw,0,none⟩) hzwB).trans e0
   have e1C:=(Below.cell gC (p:=⟨Bw,1,none⟩) hzwB).trans e1
   have hzwC:Bw<wC.heap.size:=Nat.lt_of_lt_of_le hzwB gC.size
   have HGC:=Lib.hid (HGB.out.trans gC)
   have hhwC:hw<wC.heap.size:=Nat.lt_of_lt_of_le hhwB gC.size
   have k2C:=(Below.cell (HI.out.gr.trans HGC.out) (p:=⟨hw,2,none⟩) hw0).trans HK.out.2.2
   generalize wB.heap.size=Bq at q0 q3 hzqC ⊢
   clear gC e0 e1 hzwB hhwB k1B HGB
   by_cases o7:op=7
   ·
    subst o7
    have HRT:Hid (∀W2,Gr wC W2→RetSt n code s.data.toList p Q Wn w (.returned (.tuple #[.pointer (some ⟨w.heap.size+1,0,none⟩), .slice (some ⟨a,0,none⟩) ms cs, .bool true])) W2):=Lib.hid fun W2 g2=>
     RetSt.met (j:=j) ⟨v',W',Wn',S',nB',HI.out.go (HGC.out.trans g2)⟩ HKM.out HKL.out (by rw[HVV.out]) (HPL.out.gr ((HI.out.gr.trans HGC.out).trans g2))
    clear hop'
    go_upto_region 7 with (fail)
    refine region_Q (by kernel_rfl) (by kernel_rfl) ?_
    iterate 3 (refine qv ?_;simp only[Pu])
    refine q_val (v:=?qv4) (by rfl) (fun W hW=>?qh4) ?qr4
    case qh4=>have g1:=(Below.cell hW (p:=⟨Bw,0,none⟩) hzwC).trans e0C;go_simp;rfl
    simp only[Pu]
    iterate 3 (refine qv ?_;simp only[Pu])
    refine wpQuiet_nil ?_
    intro w9 hw9
    have HF:=Lib.hid (HRT.out w9 hw9)
    clear hw9
    go_wp2
    go_ret3
    exact HF.out
   have o1:op=1:=by omega
   subst o1
   clear hop' o7
   have HN7:Hid (∀hk:k<code.length,code[k].op≠7):=Lib.hid fun hk=>by rw[HVV.out];exact (by decide:(1:Int)≠7)
   by_cases hps2:p<s.size
   ·
    have n1:decide ((p:Int)<(s.size:Int))=true:=decide_eq_true (by omega)
    have hpi2:(p:Int)<(s.size:Int):=by omega
    obtain ⟨hb,hhb⟩:∃hb,hb=hasS ps (s[p].toNat:Int):=⟨_,rfl⟩
    have HHC:=fun W=>has_any ⟨ps.toArray⟩ (by have:=HPS.out _ (List.getElem_mem HKL.out);rw[HVV.out] at this;simp only at this;show ((ps.toArray.size:Nat):Int)≤_;rw[List.size_toArray];omega) (s[p].toNat:Int) W
    rw[show (⟨ps.toArray⟩:ByteArray).data.toList=ps from rfl,←hhb] at HHC
    have HHC:∀W,Calls Tryz.prog 111 #[.string ⟨ps.toArray⟩, .int .u8 (s[p].toNat:Int)] W (fun e w'=>e= .returned (.bool hb)∧Gr W w'):=fun W=>(HHC W).mono fun e w' h=>⟨h.1,by rw[←h.2];exact Gr.refl _⟩
    have HHH:Hid (∀W,Calls Tryz.prog 111 #[.string ⟨ps.toArray⟩, .int .u8 (s[p].toNat:Int)] W (fun e w'=>e= .returned (.bool hb)∧Gr W w')):=Lib.hid HHC
    have HHB:=Lib.hid hhb
    clear hhb HHC
    go_upto_region 8 with (fail)
    refine region_R (by kernel_rfl) (by kernel_rfl) ?_
    iterate 4 (refine rv ?_;simp only[Pu])
    refine r_val (v:=?qv12) (by kernel_rfl) (fun W hW=>?qh12) ?qr12
    case qh12=>have g1:=(Below.cell hW (p:=⟨hw,2,none⟩) hhwC).trans k2C;go_light;go_simp;rfl
    simp only[Pu]
    iterate 4 (refine rv ?_;simp only[Pu])
    refine r_val (v:=?qv17) (by kernel_rfl) (fun W hW=>?qh17) ?qr17
    case qh17=>have g1:=(Below.cell hW (p:=⟨Bq,3,none⟩) hzqC).trans q3;go_light;go_simp;rfl
    simp only[Pu]
    iterate 3 (refine rv ?_;simp only[Pu])
    refine r_val (v:=?qv21) (by kernel_rfl) (fun W hW=>?qh21) ?qr21
    case qh21=>have g1:=(Below.cell hW (p:=⟨hw,2,none⟩) hhwC).trans k2C;go_light;go_simp;rfl
    simp only[Pu]
    iterate 2 (refine rv ?_;simp only[Pu])
    refine r_call (v:= .bool hb) (f:=?qf24) (args:=?qa24) (by kernel_rfl) (fun W hW=>?qh24) (fun W hW=>?qc24) ?qr24
    case qh24=>go_light;go_simp;constructor<;>rfl
    case qc24=>exact (HHH.out W).mono (fun e w' h=>⟨h.1,Gr.trans hW h.2⟩)
    simp only[Pu]
    refine rv ?_;simp only[Pu]
    refine r_nil ?_
    intro w8 hw8
    have HG8:=Lib.hid (HGC.out.trans hw8)
    have e0D:=(Below.cell hw8 (p:=⟨Bw,0,none⟩) hzwC).trans e0C
    have e1D:=(Below.cell hw8 (p:=⟨Bw,1,none⟩) hzwC).trans e1C
    clear e0C e1C hw8 q0 q3 k2C HHH
    cases hb with
    | true=>
     have HSEL:Hid (SelB code s.data.toList p k):=Lib.hid ⟨HKL.out,by simpa using hps2,by rw[HVV.out],by
      rw[HVV.out]
      exact HHB.out.symm⟩
     have HI8:=Lib.hid (HI.out.go HG8.out)
     have HGX:=HG8
     clear HG8
     have HG8:=Lib.hid HI8.out.gr
     have HAD:=Lib.hid (padds_any w.heap.size hw (w.heap.size+1) w.heap.size nB' n cA G (some ad) code s (p+1) Q (.slice (some ⟨a,0,none⟩) ms cs) ((k:Int)+1) w8 v' W' Wn' S'
      HCC.out.1 hn2 (by have:=HI8.out.nb;omega) hs (by omega) ((Below.cell HG8.out (p:=⟨hw,0,none⟩) hw0).trans HK.out.1) ((Below.cell HG8.out (p:=⟨hw,1,none⟩) hw0).trans HK.out.2.1) ((Below.cell HG8.out (p:=⟨hw,2,none⟩) hw0).trans HK.out.2.2) (HR.out.gr HG8.out)
      (fun e=>by rcases e with e|e|e;omega;omega;have:=HI8.out.ov _ e.symm;omega) (fun _ ad' e' e=>by injection e' with e';subst e';have h1:=HAB.out;rcases e with e|e|e;omega;omega;have:=HI8.out.ov _ e.symm;omega)
      HI8.out.ls HG8.out.size (PlX.new HPX.out HG8.out (fun x hx e=>by rcases e with e|e|e;omega;omega;have:=HI8.out.ov _ e.symm;omega)) HI8.out.wn HI8.out.law (HQ.out.1 k HKM.out HSEL.out) HQ.out.2)
     go_wp2_with (go_at_call 83;refine HAD.out.mono ?_;rintro e w2 r;obtain ⟨rfl, -⟩:=id r;have HF:=Lib.hid (HI.out.added HGX.out HJN.out HN7.out r);clear r)
     go_roundw
     case rel=>exact ⟨j+1,by omega,by go_num,HF.out⟩
     case measure=>simp[intOf];omega
    | false=>
     have HF:=Lib.hid (HI.out.skip HG8.out HJN.out HN7.out (by
      rintro ⟨hk,hp',h1,h2⟩
      rw[HVV.out] at h2
      exact absurd (HHB.out.trans h2) (by decide)))
     go_wp2
     go_roundw
     case rel=>exact ⟨j+1,by omega,by go_num,HF.out⟩
     case measure=>simp[intOf];omega
   ·
    have n1:decide ((p:Int)<(s.size:Int))=false:=decide_eq_false (by omega)
    go_upto_region 8 with (fail)
    refine region_R (by kernel_rfl) (by kernel_rfl) ?_
    iterate 4 (refine rv ?_;simp only[Pu])
    refine r_val (v:=?qv30) (by kernel_rfl) (fun W hW=>?qh30) ?qr30
    case qh30=>have g1:=(Below.cell hW (p:=⟨hw,2,none⟩) hhwC).trans k2C;go_light;go_simp;rfl
    simp only[Pu]
    iterate 3 (refine rv ?_;simp only[Pu])
    iterate 9 (refine rs ?_;simp only[Pu])
    refine rv ?_;simp only[Pu]
    refine r_nil ?_
    intro w8 hw8
    have HF:=Lib.hid (HI.out.skip (HGC.out.trans hw8) HJN.out HN7.out (by
     rintro ⟨hk,hp',h1,h2⟩
     exact hps2 (by simpa using hp')))
    clear hw8
    go_wp2
    go_roundw
    case rel=>exact ⟨j+1,by omega,by go_num,HF.out⟩
    case measure=>simp[intOf];omega
  ·
   have hje:j=W.length:=by omega
   rw[hje,HCC.out.2] at hR
   have HF:=Lib.hid (RetSt.none hR)
   clear hR
   have hjw:¬(j:Int)<(W.length:Int):=by omega
   clear hje
   go_wp2
   go_ret3
   exact HF.out
end
open Go.RowKit
theorem info_intP:(Tryz.prog.info? 3).map (fun i=>(i.zero,i.size,i.bytes))=some (some (.int .i64 0),1,8):=by kernel_rfl
def IRow (w:World) (g m:Nat):Prop:=∃cur:List Value,cur.length=m∧(∀v∈cur,∃z:Int,v= .int .i64 z)∧w.heap[g]?=some (.cells cur.toArray 3 (0,0))
theorem IRow.lt {w:World} {g m:Nat} (h:IRow w g m):g<w.heap.size:=by
 obtain ⟨cur, -, -,hh⟩:=h
 exact (Array.getElem?_eq_some_iff.1 hh).1
theorem IRow.plc {w:World} {g m:Nat} (h:IRow w g m) (h0:0<m) (hm:m≤3000):Plc w (.slice (some ⟨g,0,none⟩) m m) g m:=by
 have hlt:=h.lt
 obtain ⟨cur,hl,hz,hh⟩:=h
 refine ⟨m,rfl,h0,hm,hlt,fun j hj=>?_⟩
 obtain ⟨z,e⟩:=hz (cur[j]'(by omega)) (List.getElem_mem _)
 exact ⟨z,(cell_of_row _ _ _ _ _ _ hh).trans (by simp[←e,hl,hj])⟩
theorem IRow.made (w:World) (N:Nat):IRow (w.alloc (.cells (madeCells (Value.int .i64 0).cells N) 3)) w.heap.size N:=by
 refine ⟨(madeCells (Value.int .i64 0).cells N).toList,by simp[madeCells],fun v hv=>?_,?_⟩
 ·
  simp[madeCells,Value.cells] at hv
  obtain ⟨a,_,rfl⟩:=hv
  exact ⟨0,by simp[Nat.mod_one]⟩
 ·
  rw[Array.toArray_toList]
  exact heap_alloc_new w _
theorem splice_ints {cur cs:List Value} {o:Nat} (h1:∀v∈cur,∃z:Int,v= .int .i64 z) (h2:∀v∈cs,∃z:Int,v= .int .i64 z):∀v∈splice cur o cs,∃z:Int,v= .int .i64 z:=by
 intro v hv
 unfold splice at hv
 rw[List.mem_append,List.mem_append] at hv
 rcases hv with hv|hv|hv
 ·
  exact h1 v (List.mem_of_mem_take hv)
 ·
  exact h2 v hv
 ·
  exact h1 v (List.mem_of_mem_drop hv)
theorem splice_len {cur cs:List Value} {o:Nat} (h:o+cs.length≤cur.length):(splice cur o cs).length=cur.length:=by
 unfold splice
 simp only[List.length_append,List.length_take,List.length_drop]
 omega
def RetRp (m:Nat) (w:World) (e:Ending) (w':World):Prop:=∃v a,e= .returned v∧Plc w' v a m∧Gr w w'∧w.heap.size≤a
theorem pint_one {l:List Value} (h:∀v∈l,∃z:Int,v= .int .i64 z):∀v∈l,v.oneCell'=true:=fun v hv=>by obtain ⟨z,rfl⟩:=h v hv;rfl
section
variable {P:Program}
theorem wp_copy_splice {o:Oper} {a:Act} {w:World} {K:Act→World→Prop} {Q:Exit→Act→World→Prop} (hgd:o.guard=none) (d s:Operand) (dT sT:TypeId)
  (ho:o.op= .call {callee:= .builtin .copy,args:= #[d,s],argTypes:= #[dT,sT]}) (elem:TypeId) (hu:P.underlying dT=some (.slice elem)) (hsz:(P.info? elem).map (·.size)=some 1)
  (dp sp:Option Addr) (dLen dCap sLen sCap:Nat) (hd:a.eval d= .slice dp dLen dCap) (hs:a.eval s= .slice sp sLen sCap)
  (g off:Nat) (cur:List Value) (t:TypeId) (hg:w.heap[g]?=some (.cells cur.toArray t (0,0))) (cs:List Value) (hn:cs.length=Nat.min sLen dLen)
  (hpos:0<cs.length→dp=some ⟨g,off,none⟩∧∃ad,sp=some ad∧∀j v,cs[j]?=some v→w.cell? (ad.add j)=some v)
  (hfit:off+cs.length≤cur.length) (h1:∀v∈cs,v.oneCell'=true) (B:Nat) (w0:World) (hb:RowKit.Below B w0 w) (hBg:B≤g)
  (h:∀w',RowKit.Hid (w'.heap[g]?=some (.cells (splice cur off cs).toArray t (0,0)))→RowKit.Below B w0 w'→K (a.put o.dst (goInt cs.length)) w'):Oper.wp P o a w K Q:=by
 have h1:=step_copy_splice (E:=False) (ops:= #[]) hgd d s dT sT ho elem hu hsz dp sp dLen dCap sLen sCap hd hs g off cur t hg cs hn hpos hfit h1 B w0 hb hBg h (Q:=Q)
 rwa [if_pos (by simp[Region.wanted,hgd])] at h1
end
theorem add_zero_blk (b j:Nat):(⟨b,0,none⟩:Addr).add j=⟨b,j,none⟩:=by
 unfold Addr.add;split
 ·
  rename_i h;subst h;rfl
 ·
  rw[Nat.zero_add]
theorem repeat_any (b m:Nat) (z:Int) (w:World) (hm:2≤m) (hm3:m≤3000) (hc:w.cell? ⟨b,0,none⟩=some (.int .i64 z)) :
  Calls Tryz.prog 82 #[.slice (some ⟨b,0,none⟩) 1 1, .int .i64 m] w (RetRp m w):=by
 obtain ⟨j0,hj0,jz0,jz1,jz2⟩:=info_parts info_intP
 have hmi:(m:Int)≤3000:=by omega
 have hm2:(2:Int)≤(m:Int):=by omega
 have hmu:=Tryz.bits_Mul 1 m (by omega) (by omega) w
 rw[show (1*m/18446744073709551616:Nat)=0 by omega,show (1*m%18446744073709551616:Nat)=m by omega] at hmu
 have HMU:=Lib.hid hmu
 have hbz:=World.block_lt_of_cell? _ _ hc
 have hms:∀W,(Instr.makeSlice 87 (.int .i64 (m:Nat)) (.int .i64 (m:Nat))).run Tryz.prog W= .ok (.slice (some ⟨W.heap.size,0,none⟩) m m) (W.alloc (.cells (madeCells (Value.int .i64 0).cells m) 3)):=fun W=>by
  have:=run_makeSlice (P:=Tryz.prog) (w:=W) 87 3 j0 (.int .i64 0) Tryz.underlying87 hj0 jz0 .i64 .i64 (m:Int) (m:Int) (by omega) (Int.le_refl _) (by rw[jz1];simp;omega) (by rw[jz2];omega) (by omega)
  rw[jz1,Nat.mul_one,Int.toNat_natCast] at this
  exact this
 clear hmu
 obtain ⟨cur0,hl0,hz0,hh0⟩:=IRow.made w m
 have hsz:(Tryz.prog.info? 3).map (·.size)=some 1:=by kernel_rfl
 have gA:Gr w (w.alloc (.cells (madeCells (Value.int .i64 0).cells m) 3)):=Gr.alloc (Gr.refl w) _
 have hcA:=(Below.cell gA (p:=⟨b,0,none⟩) hbz).trans hc
 go_enter Tryz.func82,Tryz.ntmps82
 go_wp2_with (first|(go_at_call 109;refine HMU.out.mono ?_;rintro e w' ⟨rfl,hww⟩;obtain rfl:w=w':=hww.symm)|((with_reducible change wpList _ _ _ (⟨some 33,_,_,_,_,_⟩::_) _ _);refine wpList_copy_splice rfl (.tmp 31) (.tmp 32) 87 87 rfl 3 Tryz.underlying87 hsz (some ⟨w.heap.size,0,none⟩) (some ⟨b,0,none⟩) m m 1 1 (by rfl) (by rfl) w.heap.size 0 cur0 3 hh0 [.int .i64 z] (Nat.min_eq_left (by omega:1≤m)).symm (fun _=>⟨rfl,_,rfl,fun j v hv=>by rw[add_zero_blk];rcases j with _|j;(simp at hv;rw[←hv];exact hcA);(simp at hv)⟩) (by simp;omega) (by simp[Value.oneCell']) w.heap.size w gA (Nat.le_refl _) ?_;intro w2 hh2 hb2))
 have hI2:IRow w2 w.heap.size m:=⟨_,by rw[splice_len (by simp;omega)];exact hl0,splice_ints hz0 (by simp),hh2⟩
 have HI2:=Lib.hid (And.intro hI2 hb2)
 obtain ⟨g,hg⟩:∃g,g=w.heap.size:=⟨_,rfl⟩
 rw[←hg] at HI2 ⊢
 have HG:=Lib.hid hg
 clear hI2 hb2 hh2 hg hh0 hz0 hl0 gA hcA hc hms HMU
 go_loopw [8] (fun v wr=>∃k:Nat,1≤k∧k≤m∧v= .int .i64 k∧Below g w wr∧IRow wr g m) (fun v _=>m-(intOf v).toNat)
 case atStart=>exact ⟨1,Nat.le_refl _,by omega,rfl,HI2.out.2,HI2.out.1⟩
 case round=>
  obtain ⟨k,hk1,hkm,rfl,hbr,hI⟩:=hrel
  clear HI2
  have hki:(1:Int)≤(k:Int):=by omega
  have hkmi:(k:Int)≤(m:Int):=by omega
  by_cases hlt:k<m
  ·
   have hlti:(k:Int)<(m:Int):=by omega
   have hgz:=hI.lt
   obtain ⟨cur,hl,hz,hh⟩:=hI
   obtain ⟨c,hcd⟩:∃c,c=Nat.min k (m-k):=⟨_,rfl⟩
   have hc1:1≤c∧c≤k∧k+c≤m:=by rw[hcd];simp only[Nat.min_def];split<;>omega
   have HCD:=Lib.hid hcd
   clear hcd
   have hwr:IntKind.i64.wrap ((k:Int)+(c:Int))=(k:Int)+(c:Int):=IntWalk.i64_in _ (by omega)
   have hcl:(cur.take c).length=c:=by rw[List.length_take];omega
   have HH:=Lib.hid (And.intro hh (And.intro hl hz))
   have HB:=Lib.hid hbr
   have HCL:=Lib.hid hcl
   have HC1:=Lib.hid hc1
   clear hh hl hz hbr hcl
   go_upto_region 9 with (fail)
   refine wp_region_Z 9 (fun _=>True) (by kernel_rfl) ?_
   have hS0:True:=True.intro
   refine zu 0 rfl hS0 (fun W hS=>by go_simp;rfl) ?_
   refine zu 1 rfl hS0 (fun W hS=>by go_simp;rfl) ?_
   refine zu 2 rfl hS0 (fun W hS=>by go_simp;rfl) ?_
   refine zu 3 rfl hS0 (fun W hS=>by go_simp;rfl) ?_
   refine zu 4 rfl hS0 (fun W hS=>by go_simp;rfl) ?_
   refine zu 5 rfl hS0 (fun W hS=>by go_simp;rfl) ?_
   refine zu 6 rfl hS0 (fun W hS=>by go_simp;rfl) ?_
   refine zs 7 rfl (fun K hK=>?_)
   refine wp_copy_splice rfl (.tmp 41) (.tmp 44) 87 87 rfl 3 Tryz.underlying87 hsz (if m=k then some ⟨g,0,none⟩ else some ⟨g,k,none⟩) (some ⟨g,0,none⟩) (m-k) (m-k) k m (by rfl) (by rfl) g k cur 3 (by exact HH.out.1) (cur.take c) (by rw[HCL.out,HCD.out]) (fun _=>⟨if_neg (by omega),_,rfl,fun j v hv=>by
    rw[add_zero_blk]
    refine (cell_of_row _ _ _ _ _ _ HH.out.1).trans ?_
    rw[List.getElem?_take] at hv
    split at hv
    ·
     simpa using hv
    ·
     cases hv⟩) (by rw[HCL.out,HH.out.2.1];exact HC1.out.2.2) (pint_one (fun v hv=>HH.out.2.2 v (List.mem_of_mem_take hv))) g w (by exact HB.out.drew) (Nat.le_refl _) ?_
   intro w3 hh3 hb3
   rw[HCL.out]
   have HI3:Hid (Below g w w3∧IRow w3 g m):=Lib.hid ⟨hb3,_,by rw[splice_len (by rw[HCL.out,HH.out.2.1];exact HC1.out.2.2)];exact HH.out.2.1,splice_ints HH.out.2.2 (fun v hv=>HH.out.2.2 v (List.mem_of_mem_take hv)),hh3⟩
   clear hh3 hb3
   refine hK.out _ _ (fun hnz=>?s8) (fun _=>?r8)
   case s8=>exact True.intro
   clear hK K
   try simp only[Pu,List.getElem_toArray,List.getElem_cons_succ,List.getElem_cons_zero]
   refine zu 8 rfl hS0 (fun W hS=>by go_simp;rfl) ?_
   refine zs 9 rfl (fun K hK=>?_)
   go_wp2_with fail
   refine hK.out _ _ (fun hnz=>?s10) (fun _=>?r10)
   case s10=>exact absurd rfl hnz
   clear hK K
   try simp only[Pu,List.getElem_toArray,List.getElem_cons_succ,List.getElem_cons_zero]
   refine wpAnyZ_done (by kernel_rfl) ?_ _
   clear hwr
   go_wp2
   go_roundw
   case rel=>exact ⟨k+c,by omega,HC1.out.2.2,by go_num,HI3.out.1,HI3.out.2⟩
   case measure=>simp[intOf];have:=HC1.out;omega
  ·
   have hmk:k=m:=by omega
   subst hmk
   have HF:Hid (RetRp k w (.returned (.slice (some ⟨g,0,none⟩) k k)) wr):=Lib.hid ⟨_,g,rfl,hI.plc (by omega) hm3,by rw[HG.out] at hbr;exact hbr,Nat.le_of_eq HG.out.symm⟩
   clear hI hbr hlt
   go_wp2
   go_ret
   exact HF.out
section
open Go.RowKit Go.Maps
def RcP (code:List In) (t:List UInt8) (p:Nat) (x:Int):Prop:=Rc code t (fun i=>i≤t.length) x p
def NoB (code:List In) (t:List UInt8) (p:Nat):Prop:=∀(k:Nat) (hk:k<code.length) (q:Nat),q<p→Rc code t (fun i=>i≤t.length) k q→code[k].op≠7
def ByB (code:List In) (t:List UInt8) (p:Nat) (S:Int→Bool):Prop:=∀(k:Nat) (hk:k<code.length) (p':Nat),p=p'+1→Rc code t (fun i=>i≤t.length) k p'→code[k].op=1→∀q∈succS code t k p',InR code q.1→S q.1=true
structure FdL (n:Nat) (code:List In) (t:List UInt8) (p:Nat) (Q:Int→Prop) (w0:World) (hl:Nat) (wr:World) (B:Nat) (b0:Nat) (v:Value) (W:List Pw) (Wn:List Nat) (S:Int→Bool) (nB:Nat):Prop where
 gr:Gr w0 wr
 lo:w0.heap.size≤hl∧w0.heap.size≤B∧b0≤wr.heap.size∧∀k,v.ownBlock=some k→w0.heap.size≤k
 ls:LsM b0 hl B nB wr v W S
 wn:W.map (·.pc)=Wn.map (fun k:Nat=>(k:Int))
 law:PkA code t p Q S Wn []
 nb:nB+unseenP S n=n
def FdN (n:Nat) (code:List In) (t:List UInt8) (p:Nat) (w0:World) (hl:Nat) (wr:World):Prop:=∃B b0 v W Wn S nB,FdL n code t p (RcP code t p) w0 hl wr B b0 v W Wn S nB∧NoB code t p∧ByB code t p S
def FdY (n:Nat) (code:List In) (t:List UInt8) (p:Nat) (w0:World) (hl:Nat) (wr:World) (fv:Value):Prop:=isC code t=true∧(∃a m,Plc wr fv a m)∧∃B b0 v W Wn S nB,FdL n code t p (fun _=>True) w0 hl wr B b0 v W Wn S nB
def FdS (n:Nat) (code:List In) (t:List UInt8) (p:Nat) (w0:World) (hl:Nat) (wr:World) (ob:Bool) (fv:Value):Prop:=(ob=false∧fv= .slice none 0 0∧FdN n code t p w0 hl wr)∨(ob=true∧FdY n code t p w0 hl wr fv)
def RetFp (b:Bool) (w:World) (e:Ending) (w':World):Prop:=∃v,e= .returned (.tuple #[v, .bool b])∧Gr w w'
theorem RetFp.of {b c:Bool} {v:Value} {w w':World} (h:b=c) (g:Gr w w'):RetFp b w (.returned (.tuple #[v, .bool c])) w':=by subst h;exact ⟨v,rfl,g⟩
theorem fd_start (n:Nat) (code:List In) (t:List UInt8) (w:World) {w0:World} (g:Gr w0 w):FdN n code t 0 w0 (w.heap.size+1) ((w.alloc (.map #[] 0)).alloc (.cells #[.slice none 0 0, .map (some w.heap.size)] 123)):=by
 refine ⟨w.heap.size,w.heap.size,_,_,[],_,0,⟨g.trans (Gr.alloc (Gr.alloc (Gr.refl w) _) _),⟨Nat.le_succ_of_le g.size,g.size,by simp;omega,fun k hk=>(by cases hk)⟩,LsM.made w,rfl,PkA.none code t 0 _,by rw[unseenP_none];omega⟩,fun k hk q hq=>absurd hq (Nat.not_lt_zero _),fun k hk p' hp=>by omega⟩
section
variable {n:Nat} {code:List In} {t:List UInt8} {p:Nat} {w0 wr w2:World} {hl B b0:Nat} {v:Value} {W:List Pw} {Wn:List Nat} {S:Int→Bool} {nB:Nat}
theorem PkA.whole (h:PkA code t p (RcP code t p) S Wn []) (h0:InR code 0→S 0=true) (hb:ByB code t p S) {x:Int} (hr:RcP code t p x) (hi:InR code x):S x=true:=
 h.all h0 hb hr rfl hi
theorem RcP.closed (k:Nat) (x:Int) (h:RcP code t p k) (hx:x∈succE code t k p):RcP code t p x:=h.goes x hx
theorem RcP.byte {k:Nat} (h:RcP code t p k) (hs:SelB code t p k):RcP code t (p+1) ((k:Int)+1):=by
 obtain ⟨hk,hp,h1,h2⟩:=hs
 have:=Rc.step _ _ ((k:Int)+1,p+1) h (by rw[succS_at hk,if_pos h1,dif_pos hp,if_pos h2];exact List.mem_singleton.2 rfl)
 exact this
theorem FdN.next {pv:Value} {j:Nat} {v':Value} {W':List Pw} {Wn':List Nat} {S':Int→Bool} {nB':Nat} {wa:World} (hp:p≤t.length) (law:PkA code t p (RcP code t p) S Wn []) (hN:NoB code t p) (h0:InR code 0→S 0=true) (hb:ByB code t p S) (hga:Gr w0 wa)
  (I:StI n code t p (RcP code t (p+1)) Wn wa j w2 v' W' Wn' S' nB') (hj:j=Wn.length):FdN n code t (p+1) w0 (wa.heap.size+1) w2:=by
 subst hj
 have all:∀(k:Nat) (hk:k<code.length),Rc code t (fun i=>i≤t.length) k p→code[k].op=1∨code[k].op=7→∃i,i<Wn.length∧Wn[i]?=some k:=fun k hk hr ho=>by
  have hs:=law.whole h0 hb hr ⟨by omega,by omega⟩
  have hm:=(law.cls k hk hs).1 ho
  obtain ⟨i,hi,e⟩:=List.getElem_of_mem hm
  exact ⟨i,hi,by rw[List.getElem?_eq_getElem hi,e]⟩
 refine ⟨wa.heap.size,wa.heap.size,v',W',Wn',S',nB',⟨hga.trans I.gr,⟨Nat.le_succ_of_le hga.size,hga.size,I.gr.size,fun k hk=>Nat.le_trans hga.size (I.ov k hk)⟩,I.ls,I.wn,I.law,I.nb⟩,fun k hk q hq hr=>?_,fun k hk p' hpp hr h1 q hq hi=>?_⟩
 ·
  rcases Nat.lt_succ_iff_lt_or_eq.1 hq with h|h
  ·
   exact hN k hk q h hr
  ·
   subst h
   intro h7
   obtain ⟨i,hi,e⟩:=all k hk hr (.inr h7)
   exact (I.all i hi k e).1 hk h7
 ·
  have hpe:p'=p:=by omega
  subst hpe
  obtain ⟨i,hi2,e⟩:=all k hk hr (.inl h1)
  rw[succS_at hk,if_pos h1] at hq
  split at hq
  ·
   rename_i hlt
   split at hq
   ·
    rename_i hh
    rw[List.mem_singleton] at hq
    subst hq
    exact (I.all i hi2 k e).2 ⟨hk,hlt,h1,hh⟩ hi
   ·
    cases hq
  ·
   cases hq
theorem FdY.met {pv:Value} {j:Nat} {Q:Int→Prop} {v':Value} {W':List Pw} {Wn':List Nat} {S':Int→Bool} {nB':Nat} {wa:World} (hc:isC code t=true) (hga:Gr w0 wa) (I:StI n code t p Q Wn wa j w2 v' W' Wn' S' nB') (hpl:∃a m,Plc w2 pv a m):FdY n code t (p+1) w0 (wa.heap.size+1) w2 pv:=
 ⟨hc,hpl,wa.heap.size,wa.heap.size,v',W',Wn',S',nB',⟨hga.trans I.gr,⟨Nat.le_succ_of_le hga.size,hga.size,I.gr.size,fun k hk=>Nat.le_trans hga.size (I.ov k hk)⟩,I.ls,I.wn,⟨fun _ _=>trivial,fun x hx=>⟨trivial,(I.law.sS x hx).2⟩,I.law.sW,I.law.cls⟩,I.nb⟩⟩
theorem isC_met (law:PkA code t p (RcP code t p) S Wn []) (h:∃k∈Wn,∃hk:k<code.length,code[k].op=7):isC code t=true:=by
 obtain ⟨k,hm,hk,h7⟩:=h
 have h1:=(law.sS k (law.sW k hm).1).1
 unfold isC
 exact @decide_eq_true _ (Classical.propDecidable _) ⟨k,p,hk,h1,h7⟩
theorem isC_none (hN:NoB code t (t.length+1)):isC code t=false:=by
 unfold isC
 refine @decide_eq_false _ (Classical.propDecidable _) ?_
 rintro ⟨k,q,hk,hr,h7⟩
 exact hN k hk q (by have:=hr.le;omega) hr h7
theorem FdL.added {e:Ending} {pc:Int} (h:FdL n code t p (RcP code t p) w0 hl wr B b0 v W Wn S nB) (hN:NoB code t p) (hb:ByB code t p S) (r:RetAd b0 hl B nB n code t p (RcP code t p) wr v S pc e w2) :
  ∃v' W' Wn' S' nB',FdL n code t p (RcP code t p) w0 hl w2 B b0 v' W' Wn' S' nB'∧ByB code t p S'∧(InR code pc→S' pc=true):=by
 obtain ⟨-,v2,W2,Wn2,S2,nB2,L,hwn,law,hin,hmo,f,ho,hnb⟩:=r
 obtain ⟨l1,l2,l3,l4⟩:=h.lo
 refine ⟨v2,W2,Wn2,S2,nB2,⟨f.below h.gr (fun x hx=>?_),⟨l1,l2,Nat.le_trans l3 f.size,fun x hx=>?_⟩,L,hwn,law,by rw[hnb];exact h.nb⟩,fun k hk p' hp hr h1 q hq hi=>hmo _ (hb k hk p' hp hr h1 q hq hi),hin⟩
 ·
  rcases hx with e|e|e
  ·
   omega
  ·
   omega
  ·
   exact l4 x e.symm
 ·
  rcases ho with e|⟨y,e,hy⟩
  ·
   exact l4 x (by rw[←e];exact hx)
  ·
   rw[e] at hx;injection hx with hx;subst hx;exact Nat.le_trans h.gr.size hy
theorem FdL.go {Q:Int→Prop} (h:FdL n code t p Q w0 hl wr B b0 v W Wn S nB) (g:Gr wr w2):FdL n code t p Q w0 hl w2 B b0 v W Wn S nB:=by
 obtain ⟨l1,l2,l3,l4⟩:=h.lo
 exact ⟨h.gr.trans g,⟨l1,l2,Nat.le_trans l3 g.size,l4⟩,h.ls.gr g,h.wn,h.law,h.nb⟩
theorem FdL.old {Q:Int→Prop} (h:FdL n code t p Q w0 hl wr B b0 v W Wn S nB) {x:Nat} (hx:x<w0.heap.size):¬exA hl B v x:=fun e=>by
 obtain ⟨l1,l2,l3,l4⟩:=h.lo
 rcases e with e|e|e
 ·
  omega
 ·
  omega
 ·
  have:=l4 x e.symm;omega
theorem PkA.ops {Q:Int→Prop} (law:PkA code t p Q S Wn []):∀k∈Wn,∃h:k<code.length,code[k].op=1∨code[k].op=7:=fun k hk=>(law.sW k hk).2
end
end
section
open Go.RowKit Go.Maps
structure FdK (G n cA:Nat) (A:Option Addr) (code:List In) (s:ByteArray) (hw:Nat) (w0:World) (nv:Value):Prop where
 hn:n=code.length
 hn2:n≤2000
 hs:(s.size:Int)≤4096
 hps:∀v∈code,v.ps.length≤100000
 hw0:hw<w0.heap.size
 k0:w0.cell? ⟨hw,0,none⟩=some (.int .i64 G)
 k1:w0.cell? ⟨hw,1,none⟩=some (.slice A n cA)
 k2:w0.cell? ⟨hw,2,none⟩=some (.string s)
 hr:Ri w0 A code
 hp:∃a m,Plc w0 nv a m
def FdA (n:Nat) (code:List In) (t:List UInt8) (p:Nat) (w0:World) (hl:Nat) (wr:World):Prop:=∃B b0 v W Wn S nB,FdL n code t p (RcP code t p) w0 hl wr B b0 v W Wn S nB∧NoB code t p∧ByB code t p S∧(InR code 0→S 0=true)
section
variable {G n cA:Nat} {A:Option Addr} {code:List In} {s:ByteArray} {hw:Nat} {w0 wr:World} {nv:Value} {p hl:Nat}
theorem FdK.cells (K:FdK G n cA A code s hw w0 nv) (g:Gr w0 wr):wr.cell? ⟨hw,0,none⟩=some (.int .i64 G)∧wr.cell? ⟨hw,1,none⟩=some (.slice A n cA)∧wr.cell? ⟨hw,2,none⟩=some (.string s):=
 ⟨(Below.cell g (p:=⟨hw,0,none⟩) K.hw0).trans K.k0,(Below.cell g (p:=⟨hw,1,none⟩) K.hw0).trans K.k1,(Below.cell g (p:=⟨hw,2,none⟩) K.hw0).trans K.k2⟩
theorem FdN.adds_call (K:FdK G n cA A code s hw w0 nv) (h:FdN n code s.data.toList p w0 hl wr) (hp:p≤s.size) :
  Calls Tryz.prog 83 #[.pointer (some ⟨hw,0,none⟩), .pointer (some ⟨hl,0,none⟩), .agg #[nv, .int .i64 0], .int .i64 p] wr (fun e w'=>e= .returned (.tuple #[])∧FdA n code s.data.toList p w0 hl w'):=by
 obtain ⟨B,b0,v,W,Wn,S,nB,hL,hN,hB⟩:=h
 obtain ⟨c0,c1,c2⟩:=K.cells hL.gr
 obtain ⟨a,m,hP⟩:=K.hp
 have hpt:p≤s.data.toList.length:=by simpa using hp
 have haz:a<w0.heap.size:=by obtain ⟨c,e,h0,hm,ha,hc⟩:=hP;exact ha
 have hnb:=hL.nb
 have hax:0<n→∀ad,A=some ad→¬exA hl B v ad.block:=fun h0 ad e=>by
  obtain ⟨ad',e',hb, -⟩:=K.hr.2 (by rw[←K.hn];exact h0)
  rw[e] at e';injection e' with e';subst e'
  exact hL.old hb
 have hQ0:RcP code s.data.toList p 0:=Rc.start p hpt hpt
 have H:=padds_any b0 hw hl B nB n cA G A code s p (RcP code s.data.toList p) nv 0 wr v W Wn S K.hn K.hn2 (by omega) K.hs hp c0 c1 c2 (K.hr.gr hL.gr) (hL.old K.hw0) hax hL.ls hL.lo.2.2.1 ⟨a,m,hP.gr hL.gr,hL.old haz⟩ hL.wn hL.law hQ0 RcP.closed
 refine H.mono ?_
 intro e w' r
 have e1:=r.1
 obtain ⟨v',W',Wn',S',nB',hL',hB',hin⟩:=hL.added hN hB r
 exact ⟨e1,B,b0,v',W',Wn',S',nB',hL',hN,hB',hin⟩
theorem FdL.len {Q:Int→Prop} {B b0:Nat} {v:Value} {W:List Pw} {Wn:List Nat} {S:Int→Bool} {nB:Nat} (hL:FdL n code s.data.toList p Q w0 hl wr B b0 v W Wn S nB) (hn2:n≤2000):∃(A1:Option Addr) (L c1:Nat),L≤2000∧hl<wr.heap.size∧wr.cell? ⟨hl,0,none⟩=some (.slice A1 L c1):=by
 obtain ⟨A1,c1,hv⟩:=own_form hL.ls.own
 have h1:=hL.ls.wl
 have h2:=hL.nb
 have h3:=hL.ls.c0
 rw[hv] at h3
 exact ⟨A1,W.length,c1,by omega,hL.ls.hz,h3⟩
theorem FdA.ways (h:FdA n code s.data.toList p w0 hl wr) (hn2:n≤2000):∃(A1:Option Addr) (L c1:Nat),L≤2000∧hl<wr.heap.size∧wr.cell? ⟨hl,0,none⟩=some (.slice A1 L c1):=by
 obtain ⟨B,b0,v,W,Wn,S,nB,hL, -⟩:=h
 exact hL.len hn2
theorem FdY.ways {fv:Value} (h:FdY n code s.data.toList p w0 hl wr fv) (hn2:n≤2000):∃(A1:Option Addr) (L c1:Nat),L≤2000∧hl<wr.heap.size∧wr.cell? ⟨hl,0,none⟩=some (.slice A1 L c1):=by
 obtain ⟨-, -,B,b0,v,W,Wn,S,nB,hL⟩:=h
 exact hL.len hn2
def RetSc (n:Nat) (code:List In) (t:List UInt8) (p:Nat) (w0:World) (ob:Bool) (fv:Value) (e:Ending) (w':World):Prop:=
 ∃pv met hl',e= .returned (.tuple #[.pointer (some ⟨hl',0,none⟩),pv, .bool met])∧FdS n code t (p+1) w0 hl' w' (ob||met) (bif met then pv else fv)
theorem FdA.step_call (K:FdK G n cA A code s hw w0 nv) (h:FdA n code s.data.toList p w0 hl wr) (hp:p≤s.size) :
  Calls Tryz.prog 84 #[.pointer (some ⟨hw,0,none⟩), .pointer (some ⟨hl,0,none⟩), .int .i64 p] wr (RetSc n code s.data.toList p w0 false (.slice none 0 0)):=by
 obtain ⟨B,b0,v,W,Wn,S,nB,hL,hN,hB,h0⟩:=h
 obtain ⟨c0,c1,c2⟩:=K.cells hL.gr
 have hpt:p≤s.data.toList.length:=by simpa using hp
 have hnb:=hL.nb
 have hQ0:∀k∈Wn,SelB code s.data.toList p k→RcP code s.data.toList (p+1) ((k:Int)+1):=fun k hk hs=>RcP.byte (hL.law.sS k (hL.law.sW k hk).1).1 hs
 have H:=step_any b0 hw hl B nB n cA G A code s p (RcP code s.data.toList (p+1)) wr v W Wn S K.hn K.hn2 K.hps K.hs hp c0 c1 c2 (K.hr.gr hL.gr) hL.ls hL.wn hL.law.ops (by have:=K.hn2;omega) hQ0 RcP.closed
 refine H.mono ?_
 rintro e w' ⟨pv,met,v',W',Wn',S',nB',j,e1,I,h1,h2⟩
 refine ⟨pv,met,_,e1,?_⟩
 cases met with
 | false=>exact .inl ⟨rfl,rfl,FdN.next (pv:=pv) hpt hL.law hN h0 hB hL.gr I (h2 rfl)⟩
 | true=>exact .inr ⟨rfl,FdY.met (isC_met hL.law (h1 rfl).1) hL.gr I (h1 rfl).2⟩
theorem FdY.step_call {fv:Value} (K:FdK G n cA A code s hw w0 nv) (h:FdY n code s.data.toList p w0 hl wr fv) (hp:p≤s.size) :
  Calls Tryz.prog 84 #[.pointer (some ⟨hw,0,none⟩), .pointer (some ⟨hl,0,none⟩), .int .i64 p] wr (RetSc n code s.data.toList p w0 true fv):=by
 obtain ⟨hc,⟨a,m,hP⟩,B,b0,v,W,Wn,S,nB,hL⟩:=h
 obtain ⟨c0,c1,c2⟩:=K.cells hL.gr
 have hnb:=hL.nb
 have H:=step_any b0 hw hl B nB n cA G A code s p (fun _=>True) wr v W Wn S K.hn K.hn2 K.hps K.hs hp c0 c1 c2 (K.hr.gr hL.gr) hL.ls hL.wn hL.law.ops (by have:=K.hn2;omega) (fun _ _ _=>trivial) (fun _ _ _ _=>trivial)
 refine H.mono ?_
 rintro e w' ⟨pv,met,v',W',Wn',S',nB',j,e1,I,h1,h2⟩
 refine ⟨pv,met,_,e1,?_⟩
 cases met with
 | false=>exact .inr ⟨rfl,FdY.met (pv:=fv) hc hL.gr I ⟨a,m,hP.gr I.gr⟩⟩
 | true=>exact .inr ⟨rfl,FdY.met hc hL.gr I (h1 rfl).2⟩
theorem FdN.gr (h:FdN n code s.data.toList p w0 hl wr):Gr w0 wr:=by
 obtain ⟨B,b0,v,W,Wn,S,nB,hL, -⟩:=h
 exact hL.gr
theorem FdY.gr {fv:Value} (h:FdY n code s.data.toList p w0 hl wr fv):Gr w0 wr:=by
 obtain ⟨-, -,B,b0,v,W,Wn,S,nB,hL⟩:=h
 exact hL.gr
theorem Plc.clone {w W:World} {sv:Value} {a m:Nat} (h:Plc w sv a m) (g:Gr w W):Calls Tryz.prog 85 #[sv] W fun e w'=>∃v',e= .returned v'∧Gr W w':=by
 obtain ⟨zs,hzl,hzc⟩:=h.ints
 obtain ⟨c,rfl,h0,hm,ha, -⟩:=h
 refine (Tryz.slices_Clone_int a 0 m c zs W (by omega) (by omega) (fun j hj=>(Below.cell g (p:=⟨a,0+j,none⟩) ha).trans (hzc j hj))).mono ?_
 rintro e w' ⟨v',e1, -, -,g'⟩
 exact ⟨v',e1,g'⟩
theorem clone_nil (W:World):Calls Tryz.prog 85 #[.slice none 0 0] W fun e w'=>∃v',e= .returned v'∧Gr W w':=by
 refine (Tryz.slices_Clone_int_nil 0 0 W).mono ?_
 rintro e w' ⟨e1,rfl⟩
 exact ⟨_,e1,Gr.refl _⟩
end
end
section
open Go.RowKit Go.Maps
theorem pfind_any (G n cA:Nat) (A:Option Addr) (code:List In) (s:ByteArray) (hn:n=code.length) (hn2:n≤2000) (hG:G≤1000) (hs:(s.size:Int)≤4096) (hps:∀v∈code,v.ps.length≤100000) (w:World) (hr:Ri w A code) :
  Calls Tryz.prog 49 #[.agg #[.int .i64 G, .slice A n cA], .string s, .int .i64 0] w (RetFp (isC code s.data.toList) w):=by
 obtain ⟨V,hV⟩:∃V,V=(w.alloc (.cells #[.int .i64 G, .slice A n cA] 55)).alloc (.cells #[.int .i64 G, .slice A n cA, .string s] 117):=⟨_,rfl⟩
 have gV:Gr w V:=by rw[hV];exact Gr.alloc (Gr.alloc (Gr.refl w) _) _
 have hzV:w.heap.size<V.heap.size:=by rw[hV];simp;omega
 have hwV:w.heap.size+1<V.heap.size:=by rw[hV];simp
 have b0:V.cell? ⟨w.heap.size,0,none⟩=some (.int .i64 G):=by rw[hV];go_simp
 have b1:V.cell? ⟨w.heap.size,1,none⟩=some (.slice A n cA):=by rw[hV];go_simp
 have k0:V.cell? ⟨w.heap.size+1,0,none⟩=some (.int .i64 G):=by rw[hV];go_simp
 have k1:V.cell? ⟨w.heap.size+1,1,none⟩=some (.slice A n cA):=by rw[hV];go_simp
 have k2:V.cell? ⟨w.heap.size+1,2,none⟩=some (.string s):=by rw[hV];go_simp
 have gR:Gr V (V.alloc (.cells #[.int .i64 (-1)] 3)):=Gr.alloc (Gr.refl V) _
 have hrp:=repeat_any V.heap.size (2*G+2) (-1) (V.alloc (.cells #[.int .i64 (-1)] 3)) (by omega) (by omega) (by go_simp)
 rw[show ((2*G+2:Nat):Int)=2*(G:Int)+2 by omega] at hrp
 have HRP:=Lib.hid hrp
 have HV:=Lib.hid hV
 have HGV:=Lib.hid (And.intro gV gR)
 have HR0:=Lib.hid hr
 have HPS:=Lib.hid hps
 have hsl:Hid (s.data.toList.length=s.size):=Lib.hid (by simp)
 have HCC:=Lib.hid (And.intro hn hsl.out)
 have hGi:(G:Int)≤1000:=by omega
 have HKV:=Lib.hid (And.intro k0 (And.intro k1 k2))
 have HwV:=Lib.hid hwV
 clear hV gV gR hr hps hn hrp k0 k1 k2 hwV
 have hmm:= @run_makeMap Tryz.prog
 go_enter Tryz.func49,Tryz.ntmps49
 go_upto_region 4 with (fail)
 rw[←HV.out]
 clear HV
 go_upto_region 5 with (go_at_call 82;refine HRP.out.mono ?_;rintro e wN ⟨nv,na,rfl,hpn,gN,hnn⟩;obtain ⟨cn,hnv, -⟩:=id hpn;subst hnv)
 have gVN:Gr V wN:=HGV.out.2.trans gN
 have hwN:w.heap.size+1<wN.heap.size:=Nat.lt_of_lt_of_le HwV.out gVN.size
 have KK:FdK G n cA A code s (w.heap.size+1) wN (.slice (some ⟨na,0,none⟩) (2*G+2) cn):=⟨HCC.out.1,hn2,hs,HPS.out,hwN,(Below.cell gVN (p:=⟨w.heap.size+1,0,none⟩) HwV.out).trans HKV.out.1,(Below.cell gVN (p:=⟨w.heap.size+1,1,none⟩) HwV.out).trans HKV.out.2.1,(Below.cell gVN (p:=⟨w.heap.size+1,2,none⟩) HwV.out).trans HKV.out.2.2,HR0.out.gr (HGV.out.1.trans gVN),na,_,hpn⟩
 have HGN:=Lib.hid (HGV.out.1.trans gVN)
 have HKK:=Lib.hid KK
 have HF0:=Lib.hid (fd_start n code s.data.toList wN (Gr.refl wN))
 obtain ⟨wS,hwS⟩:∃wS,wS=(wN.alloc (.map #[] 0)).alloc (.cells #[.slice none 0 0, .map (some wN.heap.size)] 123):=⟨_,rfl⟩
 rw[←hwS] at HF0
 have HwS:=Lib.hid hwS
 clear hwS gVN gN hpn hnn hzV b0 b1 HKV HwV HRP KK hwN
 go_upto_region 8 with (fail)
 rw[←HwS.out]
 have HF1:=Lib.hid (show FdS n code s.data.toList 0 wN (wN.heap.size+1) wS false (.slice none 0 0) from .inl ⟨rfl,rfl,HF0.out⟩)
 clear HwS hmm HF0
 go_wp2
 generalize w.heap.size+1=hw at *
 go_loopw [10,11,12,13] (fun l f o i wr=>∃(p hl:Nat) (ob:Bool),p≤s.size+1∧i= .int .i64 p∧l= .pointer (some ⟨hl,0,none⟩)∧o= .bool ob∧FdS n code s.data.toList p wN hl wr ob f) (fun _ _ _ i _=>s.size+1-(intOf i).toNat)
 case atStart=>exact ⟨0,_,false,Nat.zero_le _,rfl,rfl,rfl,HF1.out⟩
 case round=>
  obtain ⟨p,hl,ob,hp1,rfl,rfl,rfl,hS⟩:=hrel
  clear HF1
  by_cases hpl:p≤s.size
  ·
   have hpi:(p:Int)≤(s.size:Int):=by omega
   rcases hS with ⟨rfl,rfl,hF⟩|⟨rfl,hF⟩
   ·
    have HAD:=Lib.hid (hF.adds_call HKK.out hpl)
    clear hF
    go_upto_region 13 with (go_at_call 83;refine HAD.out.mono ?_;rintro e wX ⟨rfl,hA⟩)
    obtain ⟨A1,L1,c1,hL1,hlz,l0⟩:=hA.ways hn2
    have HST:=Lib.hid (hA.step_call HKK.out hpl)
    clear hA HAD
    have hL1i:(L1:Int)≤2000:=by omega
    by_cases hL0:L1=0
    ·
     have z0:((L1:Int)==0)=true:=by rw[hL0];rfl
     clear hL0
     go_upto_region 15 with (go_at_call 84;refine HST.out.mono ?_;rintro e w2 ⟨pv,met,hl2,rfl,hS2⟩)
     have HS2:=Lib.hid hS2
     clear hS2 HST
     cases met
     ·
      go_wp2
      go_roundw
      case rel=>exact ⟨p+1,hl2,_,by omega,by go_num,rfl,rfl,HS2.out⟩
      case measure=>simp[intOf];omega
     ·
      go_wp2
      go_roundw
      case rel=>exact ⟨p+1,hl2,_,by omega,by go_num,rfl,rfl,HS2.out⟩
      case measure=>simp[intOf];omega
    ·
     have z0:((L1:Int)==0)=false:=beq_eq_false_iff_ne.2 (by omega)
     clear hL0
     go_upto_region 15 with (go_at_call 84;refine HST.out.mono ?_;rintro e w2 ⟨pv,met,hl2,rfl,hS2⟩)
     have HS2:=Lib.hid hS2
     clear hS2 HST
     cases met
     ·
      go_wp2
      go_roundw
      case rel=>exact ⟨p+1,hl2,_,by omega,by go_num,rfl,rfl,HS2.out⟩
      case measure=>simp[intOf];omega
     ·
      go_wp2
      go_roundw
      case rel=>exact ⟨p+1,hl2,_,by omega,by go_num,rfl,rfl,HS2.out⟩
      case measure=>simp[intOf];omega
   ·
    obtain ⟨A1,L1,c1,hL1,hlz,l0⟩:=hF.ways hn2
    have HST:=Lib.hid (hF.step_call HKK.out hpl)
    have hL1i:(L1:Int)≤2000:=by omega
    by_cases hL0:L1=0
    ·
     have z0:((L1:Int)==0)=true:=by rw[hL0];rfl
     have HC:=Lib.hid hF.1
     obtain ⟨a,m,hP⟩:=hF.2.1
     have HCL:=Lib.hid (hP.clone (Gr.refl wr))
     have HG:=Lib.hid (HGN.out.trans hF.gr)
     clear hL0 hF hP HST
     go_wp2_with (go_at_call 85;refine HCL.out.mono ?_;rintro e w9 ⟨v9,rfl,g9⟩;have G9:=Lib.hid g9;clear g9)
     go_ret2
     exact RetFp.of HC.out (HG.out.trans G9.out)
    ·
     have z0:((L1:Int)==0)=false:=beq_eq_false_iff_ne.2 (by omega)
     clear hL0 hF
     go_upto_region 15 with (go_at_call 84;refine HST.out.mono ?_;rintro e w2 ⟨pv,met,hl2,rfl,hS2⟩)
     have HS2:=Lib.hid hS2
     clear hS2 HST
     cases met
     ·
      go_wp2
      go_roundw
      case rel=>exact ⟨p+1,hl2,_,by omega,by go_num,rfl,rfl,HS2.out⟩
      case measure=>simp[intOf];omega
     ·
      go_wp2
      go_roundw
      case rel=>exact ⟨p+1,hl2,_,by omega,by go_num,rfl,rfl,HS2.out⟩
      case measure=>simp[intOf];omega
  ·
   have hgt:¬(p:Int)≤(s.size:Int):=by omega
   have hpe:p=s.size+1:=by omega
   rcases hS with ⟨rfl,rfl,hF⟩|⟨rfl,hF⟩
   ·
    have HC:Hid (isC code s.data.toList=false):=Lib.hid (by
     obtain ⟨B,b0,v,W,Wn,S,nB,hL,hN, -⟩:=hF
     refine isC_none ?_
     rw[HCC.out.2,←hpe]
     exact hN)
    have HCL:=Lib.hid (clone_nil wr)
    have HG:=Lib.hid (HGN.out.trans hF.gr)
    clear hF hpe
    go_wp2_with (go_at_call 85;refine HCL.out.mono ?_;rintro e w9 ⟨v9,rfl,g9⟩;have G9:=Lib.hid g9;clear g9)
    go_ret2
    exact RetFp.of HC.out (HG.out.trans G9.out)
   ·
    have HC:=Lib.hid hF.1
    obtain ⟨a,m,hP⟩:=hF.2.1
    have HCL:=Lib.hid (hP.clone (Gr.refl wr))
    have HG:=Lib.hid (HGN.out.trans hF.gr)
    clear hF hpe hP
    go_wp2_with (go_at_call 85;refine HCL.out.mono ?_;rintro e w9 ⟨v9,rfl,g9⟩;have G9:=Lib.hid g9;clear g9)
    go_ret2
    exact RetFp.of HC.out (HG.out.trans G9.out)
theorem pis_any (G n cA:Nat) (A:Option Addr) (code:List In) (s:ByteArray) (hn:n=code.length) (hn2:n≤2000) (hG:G≤1000) (hs:(s.size:Int)≤4096) (hps:∀v∈code,v.ps.length≤100000) (w:World) (hr:Ri w A code) :
  Calls Tryz.prog 26 #[.agg #[.int .i64 G, .slice A n cA], .string s] w fun e w'=>e= .returned (.bool (isC code s.data.toList))∧Gr w w':=by
 have HF:=Lib.hid (fun W hW=>pfind_any G n cA A code s hn hn2 hG hs hps W hW)
 have gV:Gr w (w.alloc (.cells #[.int .i64 G, .slice A n cA] 55)):=Gr.alloc (Gr.refl w) _
 have HR:=Lib.hid (hr.gr gV)
 have GV:=Lib.hid gV
 clear hr hn gV hps
 go_enter Tryz.func26,Tryz.ntmps26
 go_wp2_with (go_at_call 49;refine (HF.out _ HR.out).mono ?_;rintro e w2 ⟨v2,rfl,g2⟩;have G2:=Lib.hid g2;clear g2)
 go_ret
 exact ⟨rfl,GV.out.trans G2.out⟩
end
end Go.Proofs.YtnphdacibageiaaGreat
