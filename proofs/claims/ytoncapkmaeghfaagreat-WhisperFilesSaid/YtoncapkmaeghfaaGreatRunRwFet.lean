import Derived.Test.YtoncapkmaeghfaaGreatRunRwInf
import Derived.Test.YtoncapkmaeghfaaGreatRunAgPut
import Derived.Test.YtoncapkmaeghfaaGreatRunWiFet
set_option linter.all false
set_option maxRecDepth 1000000
set_option maxHeartbeats 12800000
namespace Go.Proofs.YtoncapkmaeghfaaGreat
open Go.RowKit
theorem span_last {m:Arcs} (h:1≤m.length):((stpS m (m.length-1):Nat):Int)*cntS m (m.length-1)=(spanS m:Nat):=by
 unfold spanS
 rw[lastS_at h,stpS_at (by omega),cntS_at (by omega)]
 simp
theorem align_add {t step:Int} (h:1≤step) (h':0≤t):alignS (t+step) step=alignS t step+step:=by
 rw[alignS_of h h',alignS_of h (by omega),Int.add_emod_right]
 omega
theorem xfetch_any {Y:Nat→Prop} {X:Nat} {R:Option Nat} {room:Int} {n:Nat} {D:List UInt8} {ag xf:Nat} {m:Arcs} (hD:(D.length:Int)≤1073741824) (ho:opS D=some (ag,xf,m)) (now frm unt:Int) (hnow1:1≤now) (hnow2:now≤4294967295) (h1:frm≤unt) (h2:frm≤now) (h3:0≤unt) (h4:now-spanS m≤unt) (w:World) (h:RsM Y w X R room n (some D)) :
  Calls Tryz.prog 37 #[.pointer (some ⟨X,0,none⟩), .string nmA, .int .i64 now, .int .i64 frm, .int .i64 unt] w (RetFe m D now frm unt w):=by
 obtain ⟨v0,hv0,vz0,vz1,vz2⟩:=info_parts info_val
 obtain ⟨V,hV⟩:∃V,V=w.alloc (.cells #[.string ⟨#[]⟩, .int .i64 0, .int .i64 0, .slice none 0 0, .int .i64 0] 89):=⟨_,rfl⟩
 have gV:Gr w V:=by rw[hV];exact Gr.alloc (Gr.refl w) _
 have hz:w.heap.size<V.heap.size:=by rw[hV];simp
 have b0:V.cell? ⟨w.heap.size,0,none⟩=some (.string ⟨#[]⟩):=by rw[hV];go_simp
 have b1:V.cell? ⟨w.heap.size,1,none⟩=some (.int .i64 0):=by rw[hV];go_simp
 have b2:V.cell? ⟨w.heap.size,2,none⟩=some (.int .i64 0):=by rw[hV];go_simp
 have b3:V.cell? ⟨w.heap.size,3,none⟩=some (.slice none 0 0):=by rw[hV];go_simp
 have b4:V.cell? ⟨w.heap.size,4,none⟩=some (.int .i64 0):=by rw[hV];go_simp
 have f0:∀o,V.frozen? ⟨w.heap.size,o,none⟩=false:=fun o=>by rw[hV];go_simp
 obtain ⟨-,hlen,hM⟩:=opS_of ho
 have hF:=MayF.ofH hM
 obtain ⟨sp,hsp⟩:∃sp,sp=spanS m:=⟨_,rfl⟩
 have hsp4:(sp:Int)≤4294967295:=by have:=hF.last;rw[hsp];unfold spanS;omega
 have HIN:=Lib.hid (xinfo_any D hD V (h.gr gV))
 have HOD:=Lib.hid ho
 have nn1:¬now<1:=by omega
 have nn2:¬4294967295<now:=by omega
 rw[←hsp] at h4
 have hw1:IntKind.i64.wrap (now-(sp:Int))=now-(sp:Int):=IntWalk.i64_in _ (by omega)
 have n1:¬unt<frm:=by omega
 have n2:¬now<frm:=by omega
 have n3:¬unt<0:=by omega
 have n4:¬unt<now-(sp:Int):=by omega
 obtain ⟨fr,hfr⟩:∃fr,fr=frS m now frm:=⟨_,rfl⟩
 obtain ⟨un,hun⟩:∃un,un=min unt now:=⟨_,rfl⟩
 obtain ⟨ol,hol⟩:∃ol:Int,ol=now-(sp:Int):=⟨_,rfl⟩
 have hfrv:max (max 0 frm) ol=fr:=by rw[hfr,hol];unfold frS;rw[←hsp]
 have HMX:(if (if 0<frm then frm else 0)<now-(sp:Int) then now-(sp:Int) else if 0<frm then frm else 0)=fr:=by
  rw[hfr];unfold frS;rw[←hsp]
  by_cases e1:0<frm
  ·
   simp only[e1,if_true]
   by_cases e2:frm<now-(sp:Int)
   ·
    rw[if_pos e2];omega
   ·
    rw[if_neg e2];omega
  ·
   simp only[e1,if_false]
   by_cases e2:0<now-(sp:Int)
   ·
    rw[if_pos e2];omega
   ·
    rw[if_neg e2];omega
 have hfr0:0≤fr:=by rw[hfr];unfold frS;omega
 have hfrn:fr≤now:=by rw[hfr];unfold frS;rw[←hsp];omega
 have hun0:0≤un:=by omega
 have hunn:un≤now:=by omega
 obtain ⟨dd,hdd⟩:∃dd:Int,now-fr=dd:=⟨_,rfl⟩
 have hwd:IntKind.i64.wrap (now-fr)=dd:=by rw[←hdd];exact IntWalk.i64_in _ (by omega)
 have hwdd:IntKind.i64.wrap dd=dd:=by rw[←hdd];exact IntWalk.i64_in _ (by omega)
 have HQ:=Lib.hid (And.intro hfr (And.intro hun hdd))
 have hm1:=hF.l1
 have hm8:(m.length:Int)≤8:=by have:=hF.l8;omega
 obtain ⟨ml,hml⟩:∃ml,ml=m.length-1:=⟨_,rfl⟩
 have hwl:IntKind.i64.wrap ((m.length:Int)-1)=(ml:Int):=by rw[show (m.length:Int)-1=(ml:Int) by omega];exact IntWalk.i64_in _ (by omega)
 have hmll:(ml:Int)<(m.length:Int):=by omega
 have HML:=Lib.hid (And.intro hml hm1)
 have HV:=Lib.hid hV
 have HGV:=Lib.hid gV
 have HF:=Lib.hid (And.intro hF (And.intro hsp (And.intro hlen hM)))
 have HFZ:=Lib.hid f0
 have HVZ:=Lib.hid (And.intro hz (And.intro b0 (And.intro b1 (And.intro b2 (And.intro b3 b4)))))
 have H0:=Lib.hid (h.gr gV)
 clear hV gV h hM hF ho hD hlen hsp f0 hfr hun hol hfrv hml hm1 h1 h2 h3 h4 b0 b1 b2 b3 b4 hz
 go_enter Tryz.func37,Tryz.ntmps37
 go_upto_region 1 with (fail)
 rw[←HV.out]
 clear HV
 go_upto_region 4 with (go_at_call 16;refine HIN.out.mono ?_;rintro e w1 ⟨g1,h1⟩;rw[HOD.out] at h1;obtain ⟨A1,c1,rfl,hc1,hr1,hf1⟩:=h1;have H1:=Lib.hid (And.intro hc1 (And.intro hr1 (And.intro hf1 g1)));clear hc1 hr1 hf1 g1)
 obtain ⟨V1,hV1⟩:∃V1,V1=w1.alloc (.cells #[.int .i64 ag, .int .i64 xf, .slice A1 m.length c1] 24):=⟨_,rfl⟩
 have k1:Gr w1 V1:=by rw[hV1];exact Gr.alloc (Gr.refl w1) _
 have hz1:w1.heap.size<V1.heap.size:=by rw[hV1];simp
 have y0:V1.cell? ⟨w1.heap.size,0,none⟩=some (.int .i64 ag):=by rw[hV1];go_simp
 have y1:V1.cell? ⟨w1.heap.size,1,none⟩=some (.int .i64 xf):=by rw[hV1];go_simp
 have y2:V1.cell? ⟨w1.heap.size,2,none⟩=some (.slice A1 m.length c1):=by rw[hV1];go_simp
 have hsp2:=rhspan_any ag xf A1 c1 m HF.out.2.2.2 V1 (H1.out.2.1.gr k1)
 rw[←HF.out.2.1] at hsp2
 have HSP:=Lib.hid hsp2
 have HK1:=Lib.hid (And.intro k1 (H1.out.2.2.2.trans k1))
 rw[←hV1]
 clear hV1 k1 hsp2
 go_upto_region 10 with (go_at_call 72;refine HSP.out.mono ?_;rintro e w3 ⟨rfl,g3⟩;have HG3:=Lib.hid g3;clear g3)
 try simp only[HMX]
 try rw[show min unt now=un from HQ.out.2.1.symm]
 have HY3:Hid (∀W,Gr w3 W→W.cell? ⟨w1.heap.size,0,none⟩=some (.int .i64 ag)∧W.cell? ⟨w1.heap.size,1,none⟩=some (.int .i64 xf)∧W.cell? ⟨w1.heap.size,2,none⟩=some (.slice A1 m.length c1)):=Lib.hid fun W gW=>by
  have g:=HG3.out.trans gW
  exact ⟨(Below.cell g (p:=⟨w1.heap.size,0,none⟩) hz1).trans y0,(Below.cell g (p:=⟨w1.heap.size,1,none⟩) hz1).trans y1,(Below.cell g (p:=⟨w1.heap.size,2,none⟩) hz1).trans y2⟩
 have HG03:=Lib.hid (HK1.out.2.trans HG3.out)
 obtain ⟨ad,rfl,hb,hc⟩:=H1.out.2.1 (by rw[ints_len];have:=HML.out.2;omega)
 have HAR:Hid (∀q (hq:q<m.length) W,Gr w3 W→W.cell? (ad.add (q*2))=some (.int .i64 (stpS m q:Nat))∧W.cell? ⟨(ad.add (q*2)).block,(ad.add (q*2)).off+1,none⟩=some (.int .i64 (cntS m q:Nat))):=Lib.hid fun q hq W gW=>by
  have hbk:∀z,(ad.add z).block<w1.heap.size:=fun z=>by rw[adB];exact hb
  obtain ⟨p0,p1⟩:=hc q (by rw[ints_len];exact hq)
  rw[ints_at m q hq] at p0 p1
  simp only at p0 p1
  rw[←stpS_at hq] at p0
  rw[←cntS_at hq] at p1
  have gg:=(HK1.out.1.trans HG3.out).trans gW
  exact ⟨(Below.cell gg (p:=ad.add (q*2)) (hbk _)).trans p0,(Below.cell gg (p:=⟨(ad.add (q*2)).block,(ad.add (q*2)).off+1,none⟩) (hbk _)).trans p1⟩
 clear n1 n2 n3 n4 HMX hw1 y0 y1 y2 hb hc nn1 nn2
 go_upto_region 11 with (fail)
 go_loopw [15] (fun k wr=>∃q:Nat,q≤ml∧k= .int .i64 q∧Gr w3 wr∧Hid (∀j,j<q→¬dd≤(stpS m j:Int)*cntS m j)) (fun k _=>m.length-(intOf k).toNat)
 case atStart=>exact ⟨0,Nat.zero_le _,rfl,Gr.refl _,Lib.hid fun _ h=>absurd h (Nat.not_lt_zero _)⟩
 case round=>
  obtain ⟨q,hq,rfl,hgr,HB⟩:=hrel
  obtain ⟨pr,hpr⟩:∃pr:Int,(stpS m q:Int)*cntS m q=pr:=⟨_,rfl⟩
  have hqi:(q:Int)≤(ml:Int):=by omega
  have hqm:q<m.length:=by have:=HML.out;omega
  have hqmi:(q:Int)<(m.length:Int):=by omega
  have hst:=HF.out.1.s1 q hqm
  have hct:=HF.out.1.c1 q hqm
  have hpw:IntKind.i64.wrap ((stpS m q:Int)*cntS m q)=pr:=by rw[prod_small _ _ (by omega) (by omega) (by omega) (by omega)];exact hpr
  have hwq:IntKind.i64.wrap (q:Int)=(q:Int):=IntWalk.i64_in _ (by omega)
  have HGR:=Lib.hid hgr
  have HARQ:=Lib.hid (fun W (gW:Gr wr W)=>HAR.out q hqm W (hgr.trans gW))
  have HYR:=Lib.hid (fun W (gW:Gr wr W)=>HY3.out W (hgr.trans gW))
  have HPR:=Lib.hid (And.intro hpr hqm)
  clear hgr hpr hst hct
  go_upto_region 11 with (fail)
  refine region_R (by kernel_rfl) (by kernel_rfl) ?_
  refine rv ?_;simp only[Pu]
  refine r_val (v:=?qv13) (by kernel_rfl) (fun W hW=>?qh13) ?qr13
  case qh13=>obtain ⟨y0,y1,y2⟩:=HYR.out W hW;go_light;go_simp;rfl
  simp only[Pu]
  iterate 3 (refine rv ?_;simp only[Pu])
  refine r_val (v:=?qv17) (by kernel_rfl) (fun W hW=>?qh17) ?qr17
  case qh17=>obtain ⟨a0,a1⟩:=HARQ.out W hW;go_light;go_simp;rfl
  simp only[Pu]
  refine rv ?_;simp only[Pu]
  refine r_val (v:=?qv19) (by kernel_rfl) (fun W hW=>?qh19) ?qr19
  case qh19=>obtain ⟨y0,y1,y2⟩:=HYR.out W hW;go_light;go_simp;rfl
  simp only[Pu]
  iterate 3 (refine rv ?_;simp only[Pu])
  refine r_val (v:=?qv23) (by kernel_rfl) (fun W hW=>?qh23) ?qr23
  case qh23=>obtain ⟨a0,a1⟩:=HARQ.out W hW;go_light;go_simp;rfl
  simp only[Pu]
  iterate 5 (refine rv ?_;simp only[Pu])
  refine r_nil ?_
  intro w5 g5
  have HGX:=Lib.hid (HGR.out.trans g5)
  clear g5
  by_cases hp:pr<dd
  ·
   have HN:Hid (q<ml∧∀j,j<q+1→¬dd≤(stpS m j:Int)*cntS m j):=Lib.hid (by
    refine ⟨?_,fun j hj=>?_⟩
    ·
     rcases Nat.lt_or_ge q ml with e|e
     ·
      exact e
     ·
      exfalso
      have hql:q=m.length-1:=by have:=HML.out;omega
      have hla:=span_last (m:=m) HML.out.2
      rw[←hql,HPR.out.1,←HF.out.2.1] at hla
      have h7:=HQ.out.1
      have h8:=HQ.out.2.2
      unfold frS at h7
      rw[←HF.out.2.1] at h7
      omega
    ·
     rcases Nat.lt_or_ge j q with e|e
     ·
      exact HB.out j e
     ·
      have e2:j=q:=by omega
      rw[e2,HPR.out.1]
      omega)
   go_wp2
   go_roundw
   case rel=>exact ⟨q+1,by have:=HN.out.1;omega,by go_num,HGX.out,Lib.hid HN.out.2⟩
   case measure=>simp[intOf];omega
  ·
   have hix:whichS m dd=q:=by
    by_cases hlt:q<ml
    ·
     exact which_at (by rw[←HML.out.1];exact hlt) (by rw[HPR.out.1];omega) HB.out
    ·
     have hqe:q=m.length-1:=by rw[←HML.out.1];omega
     rw[hqe]
     exact which_last HML.out.2 (fun j hj=>HB.out j (by omega))
   obtain ⟨S,hS⟩:∃S,S=stpS m q:=⟨_,rfl⟩
   have hs1:=HF.out.1.s1 q hqm
   obtain ⟨st,hst⟩:∃st,st=startS m q fr:=⟨_,rfl⟩
   obtain ⟨en,hen⟩:∃en,en=endW m q fr un:=⟨_,rfl⟩
   obtain ⟨N,hN⟩:∃N,N=manyS m q fr un:=⟨_,rfl⟩
   obtain ⟨hm1e,hN1⟩:=many_eq (m:=m) (i:=q) hs1.1 hfr0 hun0
   have hal:=fun W=>ralign_any fr S (by omega) W
   have hal2:=fun W=>ralign_any un S (by omega) W
   obtain ⟨a,ha⟩:∃a,a=alignS fr S:=⟨_,rfl⟩
   obtain ⟨b,hbe⟩:∃b,b=alignS un S:=⟨_,rfl⟩
   have hst2:st=a+S:=by rw[hst,ha,hS];exact align_add (by omega) hfr0
   have hen2:en=max (b+S) (st+S):=by rw[hen,hst,hbe,hS];unfold endW;rw[align_add (by omega) hun0]
   have hsf:=align_facts (t:=fr) (step:=(S:Int)) (by omega) (by omega)
   have hef:=align_facts (t:=un) (step:=(S:Int)) (by omega) (by omega)
   obtain ⟨kb,hkb, -⟩:=align_mod (t:=un) (step:=(S:Int)) (by omega) (by omega)
   obtain ⟨ka,hka, -⟩:=align_mod (t:=fr) (step:=(S:Int)) (by omega) (by omega)
   rw[←ha] at hal hsf hka
   rw[←hbe] at hal2 hef hkb
   rw[←hst,←hN,←hS,←hen] at hm1e
   rw[←hN] at hN1
   have HAL:=Lib.hid hal
   have HAL2:=Lib.hid hal2
   have hSi:(S:Int)≤16777216:=by omega
   have hS1:1≤(S:Int):=by omega
   have hwa:IntKind.i64.wrap (a+(S:Int))=st:=by rw[hst2];exact IntWalk.i64_in _ (by omega)
   have hwb:IntKind.i64.wrap (b+(S:Int))=b+S:=IntWalk.i64_in _ (by omega)
   have hwc:IntKind.i64.wrap (st+(S:Int))=st+(S:Int):=IntWalk.i64_in _ (by omega)
   have HMX2:Hid (if b+S≤st then en=st+S else en=b+S):=Lib.hid (by
    by_cases e:b+S≤st
    ·
     rw[if_pos e,hen2];omega
    ·
     rw[if_neg e,hen2]
     have h5:ka+1<kb+1:=by
      rcases Int.lt_or_le (ka+1) (kb+1) with h|h
      ·
       exact h
      ·
       exfalso
       have h6:(kb+1)*(S:Int)≤(ka+1)*S:=Int.mul_le_mul_of_nonneg_right h (by omega)
       rw[Int.add_mul,Int.add_mul,Int.one_mul] at h6
       omega
     have h7:(ka+1+1)*(S:Int)≤(kb+1)*S:=Int.mul_le_mul_of_nonneg_right h5 (by omega)
     rw[Int.add_mul,Int.add_mul,Int.add_mul,Int.one_mul] at h7
     omega)
   have hen4:en≤4400000000:=by omega
   have hst0:0≤st:=by omega
   have hNN:(N:Int)≤(N:Int)*S:=by
    have:=Int.mul_le_mul_of_nonneg_left hS1 (show (0:Int)≤(N:Int) by omega)
    rw[Int.mul_one] at this
    exact this
   have hNi:(N:Int)≤4400000000:=by omega
   have HST:=Lib.hid (And.intro hst (And.intro hS (And.intro hN hix)))
   have HSM:=Lib.hid hm1e
   have VL:∃VL,VL=valsS m D q st N:=⟨_,rfl⟩
   obtain ⟨VL,hVL⟩:=VL
   have hVl:VL.length=N:=by rw[hVL];unfold valsS;rw[List.length_map,List.length_range]
   have hVq:∀j (hj:j<VL.length),VL[j]=hasV m D q (st+j*S):=fun j hj=>by
    subst hVL
    simp only[valsS,List.getElem_map,List.getElem_range]
    rw[hS]
   have HVL:=Lib.hid (And.intro hVL (And.intro hVl hVq))
   have hNZ:(N:Int)*16≤140737488355328:=by omega
   obtain ⟨yy0,yy1,yy2⟩:=HY3.out w5 HGX.out
   clear hs1 hst hS hN hix hal hal2 hst2 hen hen2 hsf hef hbe hkb hka ha hm1e hVL hVl hVq hqi hNN
   go_upto_region 14 with (fail)
   clear hp hpw
   obtain ⟨V5,hV5⟩:∃V5,V5=w5.alloc (.cells #[.pointer (some ⟨X,0,none⟩), .string nmA, .int .i64 ag, .int .i64 xf, .slice (some ad) m.length c1] 123):=⟨_,rfl⟩
   have k5:Gr w5 V5:=by rw[hV5];exact Gr.alloc (Gr.refl w5) _
   have hz5:w5.heap.size<V5.heap.size:=by rw[hV5];simp
   have x0:V5.cell? ⟨w5.heap.size,0,none⟩=some (.pointer (some ⟨X,0,none⟩)):=by rw[hV5];go_simp
   have x1:V5.cell? ⟨w5.heap.size,1,none⟩=some (.string nmA):=by rw[hV5];go_simp
   have x2:V5.cell? ⟨w5.heap.size,2,none⟩=some (.int .i64 ag):=by rw[hV5];go_simp
   have x3:V5.cell? ⟨w5.heap.size,3,none⟩=some (.int .i64 xf):=by rw[hV5];go_simp
   have x4:V5.cell? ⟨w5.heap.size,4,none⟩=some (.slice (some ad) m.length c1):=by rw[hV5];go_simp
   have HG5:=Lib.hid (HGX.out.trans k5)
   have HGA:=Lib.hid (HG03.out.trans HG5.out)
   have hr2:Ri V5 (some ad) (ints m):=((H1.out.2.1.gr HK1.out.1).gr HG3.out).gr HG5.out
   have HXF:Hid (XfM Y V5 w5.heap.size X R room n ag xf (some ad) c1 m D):=Lib.hid ⟨⟨x0,x1,x2,x3,x4⟩,hr2,HF.out.2.2.2,H1.out.1,HF.out.2.2.1.symm,H0.out.more HGA.out (fun k e=>by
     rcases e with e|e|⟨ad',e1,e2⟩
     ·
      exact .inl e
     ·
      subst e;exact .inr (HG03.out.trans HGX.out).size
     ·
      rw[←e2];exact .inr (H1.out.2.2.1 ad' e1)) (fun k e=>by
     rcases e with e|e|⟨ad',e1,e2⟩
     ·
      exact Nat.lt_of_lt_of_le (H0.out.yl k e) HGA.out.size
     ·
      subst e;exact hz5
     ·
      obtain ⟨ad2,e3,hb, -⟩:=hr2 (by rw[ints_len];have:=HML.out.2;omega)
      rw[e1] at e3
      injection e3 with e3
      rw[←e2,e3];exact hb)⟩
   obtain ⟨ar0,ar1⟩:=HAR.out q hqm V5 HG5.out
   rw[←HST.out.2.1] at ar0
   obtain ⟨u0,u1,u2⟩:=HY3.out V5 HG5.out
   rw[←hV5]
   clear hV5 k5 x0 x1 x2 x3 x4 yy0 yy1 yy2 hr2 ar1
   go_upto_region 16 with (go_at_call 76;refine (HAL.out _).mono ?_;rintro e w6 ⟨rfl,rfl⟩)
   obtain ⟨W7,hW7⟩:∃W7,W7=V5.alloc (.cells #[.string nmA, .int .i64 st, .int .i64 S, .slice none 0 0, .int .i64 0] 89):=⟨_,rfl⟩
   have g7:Gr V5 W7:=by rw[hW7];exact Gr.alloc (Gr.refl V5) _
   have hz7:V5.heap.size<W7.heap.size:=by rw[hW7];simp
   have hsr:SrB W7 V5.heap.size st S (.slice none 0 0):=⟨by rw[hW7];go_simp,by rw[hW7];go_simp,by rw[hW7];go_simp,by rw[hW7];go_simp,by rw[hW7];go_simp,by rw[hW7];go_simp,hz7⟩
   have d1:=hsr.c1
   have HG7:=Lib.hid g7
   have HSR:=Lib.hid hsr
   rw[←hW7]
   clear hW7 g7 hsr ar0 u0 u1 u2
   go_upto_region 17 with (go_at_call 76;refine (HAL2.out _).mono ?_;rintro e w6 ⟨rfl,rfl⟩)
   obtain ⟨sb,hsb⟩:∃sb,sb=V5.heap.size:=⟨_,rfl⟩
   rw[←hsb] at HSR d1 hz7 ⊢
   have HSEP:Hid (w3.heap.size≤sb∧V5.heap.size≤sb):=Lib.hid (by rw[hsb];exact ⟨HG5.out.size,Nat.le_refl _⟩)
   have HGW8:=Lib.hid (HG5.out.trans HG7.out)
   have hw3z:w.heap.size<w3.heap.size:=Nat.lt_of_lt_of_le HVZ.out.1 HG03.out.size
   clear hsb HAL HAL2
   by_cases hle:b+(S:Int)≤st
   ·
    have hwe:IntKind.i64.wrap (st+(S:Int))=en:=by have h:=HMX2.out;rw[if_pos hle] at h;rw[hwc,h]
    clear hwc hwb
    go_upto_region 20 with (fail)
    go_loopw [20] (fun x wr=>∃(j:Nat) (vv:Value),j≤N∧x= .int .i64 (st+(j:Int)*S)∧Kp (fun k=>k=sb) W7 wr∧SrB wr sb st S vv∧wr.ownsRow W7.heap.size 107 2 vv j (vcells (VL.take j))) (fun x _=>(en-intOf x).toNat)
    case atStart=>exact ⟨0, .slice none 0 0,Nat.zero_le _,by go_num,Kp.refl _ _,HSR.out,World.ownsRow_nil _ _ _ _⟩
    case round=>
     obtain ⟨j,vv,hj,rfl,hkp,hsr,hown⟩:=hrel
     obtain ⟨y,hy⟩:∃y:Int,y=st+(j:Int)*S:=⟨_,rfl⟩
     have hjS:(j:Int)*S≤(N:Int)*S:=Int.mul_le_mul_of_nonneg_right (by omega) (by omega)
     have hj0:0≤(j:Int)*S:=Int.mul_nonneg (by omega) (by omega)
     have hsm:=HSM.out
     rw[←hy]
     have hy0:0≤y:=by omega
     have hye:y≤en:=by omega
     by_cases hlt:j<N
     ·
      have hj1:((j:Int)+1)*S≤(N:Int)*S:=Int.mul_le_mul_of_nonneg_right (by omega) (by omega)
      rw[Int.add_mul,Int.one_mul] at hj1
      have hyl:y<en:=by omega
      have hyS:y+S≤en:=by omega
      have hwy:IntKind.i64.wrap (y+(S:Int))=y+(S:Int):=IntWalk.i64_in _ (by omega)
      have hyn:y+(S:Int)=st+((j+1:Nat):Int)*S:=by rw[hy];simp only[Int.natCast_add,Int.add_mul];omega
      have hjl:j<VL.length:=by rw[HVL.out.2.1];exact hlt
      obtain ⟨u,hu⟩:∃u,u=VL[j]:=⟨_,rfl⟩
      have huh:hasV m D q y=u:=by rw[hu,HVL.out.2.2 j hjl,hy]
      have HT:=Lib.hid (show VL.take (j+1)=VL.take j++[u] by rw[List.take_succ_eq_append_getElem hjl,hu])
      have HYN:=Lib.hid hyn
      have HJ:=Lib.hid (And.intro hlt (And.intro hyS hyl))
      have hz7r:=hkp.size
      have hnT:¬vv.ownBlock=some sb:=fun e=>by have:=(hown.lt sb e).1;omega
      have SR:=Lib.hid (And.intro hsr hnT)
      have HKP:=Lib.hid hkp
      have HOW:=Lib.hid hown
      have HH:Hid (∀W,Gr wr W→Calls Tryz.prog 77 #[.pointer (some ⟨w5.heap.size,0,none⟩), .int .i64 q, .int .i64 y] W (RetVl u W)):=Lib.hid fun W gW=>by rw[←huh];exact xval_any q HPR.out.2 y hy0 (by omega) W ((HXF.out.gr (gr_over HG7.out hkp HSEP.out.2)).gr gW)
      have hji:(j:Int)+1≤4400000000:=by omega
      have HYY:=Lib.hid hy
      clear hjS hj0 hsm hj1 hyn huh hu hkp hsr hown hj hnT hy
      go_upto_region 22 with (fail)
      refine wp_region_Z 9 (Kp (fun k=>vv.ownBlock=some k) wr) (by kernel_rfl) ?_
      have gr0:Gr wr wr.drew:=Gr.drew (Gr.refl _)
      obtain ⟨W9,hW9⟩:∃W9,W9=wr.drew:=⟨_,rfl⟩
      rw[←hW9] at gr0 ⊢
      clear hW9
      have hS0:Kp (fun k=>vv.ownBlock=some k) wr W9:=Kp.of_gr _ gr0
      refine zu 0 rfl hS0 (fun W hS=>by go_simp;rfl) ?_
      refine zu 1 rfl hS0 (fun W hS=>by have y0:=SrB.c3K SR.out hS;go_simp;rfl) ?_
      refine zu 2 rfl hS0 (fun W hS=>by go_simp;rfl) ?_
      refine zu 3 rfl hS0 (fun W hS=>by go_simp;rfl) ?_
      refine zu 4 rfl hS0 (fun W hS=>by go_simp;rfl) ?_
      have HS0:=Lib.hid hS0
      refine wpAnyZ_ready (rs:=[5]) (by kernel_rfl) (by simp) ?_
      refine AllReadyZ.cons (i:=5) rfl (by kernel_rfl) ?zx1 AllReadyZ.nil
      intro K hK
      simp only[List.getElem_toArray,List.getElem_cons_succ,List.getElem_cons_zero]
      go_simp
      refine (HH.out _ gr0).mono ?_
      rintro e Vc ⟨rfl,k5⟩
      have gr5:=gr0.trans k5
      have hown5:=own_grU HOW.out gr5
      clear k5 hS0
      go_wp2_with fail
      refine hK.out _ _ (fun hnz=>?zs2) (fun _=>?zr3)
      case zs2=>exact Kp.of_gr _ gr5
      clear hK K
      try (simp only[Pu,List.getElem_toArray,List.getElem_cons_succ,List.getElem_cons_zero])
      refine wpAnyZ_ready (rs:=[6]) (by kernel_rfl) (by simp) ?_
      refine AllReadyZ.cons (i:=6) rfl (by kernel_rfl) ?zx4 AllReadyZ.nil
      intro K hK
      simp only[List.getElem_toArray,List.getElem_cons_succ,List.getElem_cons_zero]
      go_simp
      obtain ⟨Vd,hVd⟩:∃Vd,Vd=Vc.alloc (.cells #[.bool u.ok, .int .i64 u.n] 107):=⟨_,rfl⟩
      have g6:Gr Vc Vd:=by rw[hVd];exact Gr.alloc (Gr.refl _) _
      have hrx:Rv Vd (some ⟨Vc.heap.size,0,none⟩) [u]:=by rw[hVd];exact Rv.new rfl 107 [u]
      rw[←hVd]
      clear hVd
      have gr6:=gr5.trans g6
      have hown6:=own_grU hown5 g6
      have hz6:=gr6.size
      clear hown5 g6
      refine hK.out _ _ (fun hnz=>?zs5) (fun _=>?zr6)
      case zs5=>exact Kp.of_gr _ gr6
      clear hK K
      try (simp only[Pu,List.getElem_toArray,List.getElem_cons_succ,List.getElem_cons_zero])
      refine wpAnyZ_ready (rs:=[7]) (by kernel_rfl) (by simp) ?_
      refine AllReadyZ.cons (i:=7) rfl (by kernel_rfl) ?zx7 AllReadyZ.nil
      intro K hK
      simp only[List.getElem_toArray,List.getElem_cons_succ,List.getElem_cons_zero]
      refine wp_append_rd0 (.tmp 128) (.tmp 133) 87 rfl W7.heap.size 107 v0 _ 2 16 Tryz.underlying87 hv0 vz0 vz1 vz2 rfl (by decide) vv j (vcells (VL.take j)) rfl hown6 (some ⟨Vc.heap.size,0,none⟩) 1 1 (vcells [u]) rfl hrx (vcells_one _) (by unfold maxLen;omega) (by omega) (by omega) ?_
      intro v' w7 hown7 hgr7 hat7
      have kp7:Kp (fun k=>vv.ownBlock=some k) wr w7:=(Kp.of_gr (fun k=>vv.ownBlock=some k) gr6).grown hgr7 (fun k e=> .inl e)
      have sr7:=SR.out.1.kp kp7 SR.out.2
      rw[←vcells_append,←HT.out] at hown7
      obtain ⟨A7,c7,hv7⟩:=own_form hown7
      subst hv7
      clear hown6 hgr7 hat7 hrx gr6 gr5 gr0
      refine hK.out _ _ (fun hnz=>?zs8) (fun _=>?zr9)
      case zs8=>exact kp7
      clear hK K
      try (simp only[Pu,List.getElem_toArray,List.getElem_cons_succ,List.getElem_cons_zero])
      refine wpAnyZ_ready (rs:=[8]) (by kernel_rfl) (by simp) ?_
      refine AllReadyZ.cons (i:=8) rfl (by kernel_rfl) ?zx10 AllReadyZ.nil
      intro K hK
      simp only[List.getElem_toArray,List.getElem_cons_succ,List.getElem_cons_zero]
      go_wp2_with fail
      refine hK.out _ _ (fun hnz=>?zs11) (fun _=>?zr12)
      case zs11=>exact kp7
      clear hK K
      try (simp only[Pu,List.getElem_toArray,List.getElem_cons_succ,List.getElem_cons_zero])
      have y3:=sr7.c3
      have yf:=sr7.f3
      have yl:=sr7.lt
      refine wpAnyZ_ready (rs:=[9]) (by kernel_rfl) (by simp) ?_
      refine AllReadyZ.cons (i:=9) rfl (by kernel_rfl) ?zx13 AllReadyZ.nil
      intro K hK
      simp only[List.getElem_toArray,List.getElem_cons_succ,List.getElem_cons_zero]
      go_simp
      refine hK.out _ _ (fun hnz=>?zs14) (fun _=>?zr15)
      case zs14=>exact absurd rfl hnz
      clear hK K
      try (simp only[Pu,List.getElem_toArray,List.getElem_cons_succ,List.getElem_cons_zero])
      refine wpAnyZ_done (by kernel_rfl) ?_ _
      have HF7:Hid (Kp (fun k=>k=sb) W7 (w7.setCell ⟨sb,3,none⟩ (.slice A7 (j+1) c7))∧SrB (w7.setCell ⟨sb,3,none⟩ (.slice A7 (j+1) c7)) sb st S (.slice A7 (j+1) c7)∧(w7.setCell ⟨sb,3,none⟩ (.slice A7 (j+1) c7)).ownsRow W7.heap.size 107 2 (.slice A7 (j+1) c7) (j+1) (vcells (VL.take (j+1)))):=Lib.hid ⟨(HKP.out.trans kp7 (fun i hi e=>by have:=(HOW.out.lt i e).1;omega)).set (p:=⟨sb,3,none⟩) (.inl (show sb=sb from rfl)) _,sr7.put _,own_setU hown7 (show sb<W7.heap.size from hz7) _⟩
      clear y3 yf yl kp7 sr7 hown7
      go_wp2
      go_roundw
      case rel=>exact ⟨j+1,_,HJ.out.1,by rw[HYN.out],HF7.out⟩
      case measure=>have:=HJ.out;simp[intOf];omega
     ·
      have hjN:j=N:=by omega
      subst hjN
      obtain ⟨A7,c7,hv7⟩:=own_form hown
      subst hv7
      have hrv:Rv wr A7 VL:=by
       have:=Rd.own hown
       rw[←HVL.out.2.1,List.take_length] at this
       exact this
      have hyN:¬y<en:=by omega
      have gwr:=gr_over HGW8.out hkp HSEP.out.1
      have hw3:=hw3z
      have HZ:Hid (∀o,wr.cell? ⟨w.heap.size,o,none⟩=V.cell? ⟨w.heap.size,o,none⟩∧wr.frozen? ⟨w.heap.size,o,none⟩=false):=Lib.hid (fun o=>⟨(Below.cell (HG03.out.trans gwr) (p:=⟨w.heap.size,o,none⟩) HVZ.out.1).trans rfl,(Below.frozen (HG03.out.trans gwr) (p:=⟨w.heap.size,o,none⟩) HVZ.out.1).trans (HFZ.out o)⟩)
      have z0:=(HZ.out 0).1.trans HVZ.out.2.1
      have z1:=(HZ.out 1).1.trans HVZ.out.2.2.1
      have z2:=(HZ.out 2).1.trans HVZ.out.2.2.2.1
      have z3:=(HZ.out 3).1.trans HVZ.out.2.2.2.2.1
      have z4:=(HZ.out 4).1.trans HVZ.out.2.2.2.2.2
      have k0:=(HZ.out 0).2
      have k1:=(HZ.out 1).2
      have k2:=(HZ.out 2).2
      have k3:=(HZ.out 3).2
      have k4:=(HZ.out 4).2
      have d0:=hsr.c0
      have d2:=hsr.c2
      have d3:=hsr.c3
      have d4:=hsr.c4
      have d1':=hsr.c1
      have HRV:=Lib.hid (And.intro hrv (And.intro ((HGV.out.trans HG03.out).trans gwr) (hown.lt)))
      have hzwr:=hkp.size
      have hwsb:w.heap.size<wr.heap.size:=by have:=hsr.lt;have:=HSEP.out.1;omega
      clear hrv gwr hown hkp hsr hj0 hjS hsm d1 hy
      go_wp2
      refine bodyPost_ret (v:= .tuple #[.agg #[.string nmA, .int .i64 st, .int .i64 S, .slice A7 j c7, .int .i64 0], .int .i64 0]) (by simp[results,Tryz.results37,go_sem, *]) rfl ?_
      have hq2:whichS m (now-frS m now frm)=q:=by rw[←HQ.out.1,HQ.out.2.2,HST.out.2.2.2]
      have hfe:fetV m D now frm unt=VL:=by unfold fetV;rw[hq2,←HQ.out.1,←HQ.out.2.1,←HST.out.1,←HST.out.2.2.1,←HVL.out.1]
      have K:Kp (fun k=>k=w.heap.size) wr (((((wr.setCell ⟨w.heap.size,0,none⟩ (.string nmA)).setCell ⟨w.heap.size,1,none⟩ (.int .i64 st)).setCell ⟨w.heap.size,2,none⟩ (.int .i64 S)).setCell ⟨w.heap.size,3,none⟩ (.slice A7 j c7)).setCell ⟨w.heap.size,4,none⟩ (.int .i64 0)):=(((((Kp.refl (fun k=>k=w.heap.size) wr).set (.inl rfl) _).set (.inl rfl) _).set (.inl rfl) _).set (.inl rfl) _).set (.inl rfl) _
      refine ⟨((((HRV.out.2.1.setCell (Nat.le_refl _) _).setCell (Nat.le_refl _) _).setCell (Nat.le_refl _) _).setCell (Nat.le_refl _) _).setCell (Nat.le_refl _) _,A7,c7,?_,?_⟩
      ·
       rw[hfe,hq2,←HQ.out.1,←HST.out.1,←HST.out.2.1,HVL.out.2.1]
      ·
       rw[hfe]
       exact K.rd HRV.out.1 (fun _ ad e=>by
        have:=(HRV.out.2.2 ad.block (by rw[e];rfl)).1
        have:=HGW8.out.size
        omega)
   ·
    have hwe:b+(S:Int)=en:=by have h:=HMX2.out;rw[if_neg hle] at h;exact h.symm
    rw[hwe] at hle ⊢
    clear hwc hwb
    go_upto_region 20 with (fail)
    go_loopw [20] (fun x wr=>∃(j:Nat) (vv:Value),j≤N∧x= .int .i64 (st+(j:Int)*S)∧Kp (fun k=>k=sb) W7 wr∧SrB wr sb st S vv∧wr.ownsRow W7.heap.size 107 2 vv j (vcells (VL.take j))) (fun x _=>(en-intOf x).toNat)
    case atStart=>exact ⟨0, .slice none 0 0,Nat.zero_le _,by go_num,Kp.refl _ _,HSR.out,World.ownsRow_nil _ _ _ _⟩
    case round=>
     obtain ⟨j,vv,hj,rfl,hkp,hsr,hown⟩:=hrel
     obtain ⟨y,hy⟩:∃y:Int,y=st+(j:Int)*S:=⟨_,rfl⟩
     have hjS:(j:Int)*S≤(N:Int)*S:=Int.mul_le_mul_of_nonneg_right (by omega) (by omega)
     have hj0:0≤(j:Int)*S:=Int.mul_nonneg (by omega) (by omega)
     have hsm:=HSM.out
     rw[←hy]
     have hy0:0≤y:=by omega
     have hye:y≤en:=by omega
     by_cases hlt:j<N
     ·
      have hj1:((j:Int)+1)*S≤(N:Int)*S:=Int.mul_le_mul_of_nonneg_right (by omega) (by omega)
      rw[Int.add_mul,Int.one_mul] at hj1
      have hyl:y<en:=by omega
      have hyS:y+S≤en:=by omega
      have hwy:IntKind.i64.wrap (y+(S:Int))=y+(S:Int):=IntWalk.i64_in _ (by omega)
      have hyn:y+(S:Int)=st+((j+1:Nat):Int)*S:=by rw[hy];simp only[Int.natCast_add,Int.add_mul];omega
      have hjl:j<VL.length:=by rw[HVL.out.2.1];exact hlt
      obtain ⟨u,hu⟩:∃u,u=VL[j]:=⟨_,rfl⟩
      have huh:hasV m D q y=u:=by rw[hu,HVL.out.2.2 j hjl,hy]
      have HT:=Lib.hid (show VL.take (j+1)=VL.take j++[u] by rw[List.take_succ_eq_append_getElem hjl,hu])
      have HYN:=Lib.hid hyn
      have HJ:=Lib.hid (And.intro hlt (And.intro hyS hyl))
      have hz7r:=hkp.size
      have hnT:¬vv.ownBlock=some sb:=fun e=>by have:=(hown.lt sb e).1;omega
      have SR:=Lib.hid (And.intro hsr hnT)
      have HKP:=Lib.hid hkp
      have HOW:=Lib.hid hown
      have HH:Hid (∀W,Gr wr W→Calls Tryz.prog 77 #[.pointer (some ⟨w5.heap.size,0,none⟩), .int .i64 q, .int .i64 y] W (RetVl u W)):=Lib.hid fun W gW=>by rw[←huh];exact xval_any q HPR.out.2 y hy0 (by omega) W ((HXF.out.gr (gr_over HG7.out hkp HSEP.out.2)).gr gW)
      have hji:(j:Int)+1≤4400000000:=by omega
      have HYY:=Lib.hid hy
      clear hjS hj0 hsm hj1 hyn huh hu hkp hsr hown hj hnT hy
      go_upto_region 22 with (fail)
      refine wp_region_Z 9 (Kp (fun k=>vv.ownBlock=some k) wr) (by kernel_rfl) ?_
      have gr0:Gr wr wr.drew:=Gr.drew (Gr.refl _)
      obtain ⟨W9,hW9⟩:∃W9,W9=wr.drew:=⟨_,rfl⟩
      rw[←hW9] at gr0 ⊢
      clear hW9
      have hS0:Kp (fun k=>vv.ownBlock=some k) wr W9:=Kp.of_gr _ gr0
      refine zu 0 rfl hS0 (fun W hS=>by go_simp;rfl) ?_
      refine zu 1 rfl hS0 (fun W hS=>by have y0:=SrB.c3K SR.out hS;go_simp;rfl) ?_
      refine zu 2 rfl hS0 (fun W hS=>by go_simp;rfl) ?_
      refine zu 3 rfl hS0 (fun W hS=>by go_simp;rfl) ?_
      refine zu 4 rfl hS0 (fun W hS=>by go_simp;rfl) ?_
      have HS0:=Lib.hid hS0
      refine wpAnyZ_ready (rs:=[5]) (by kernel_rfl) (by simp) ?_
      refine AllReadyZ.cons (i:=5) rfl (by kernel_rfl) ?zx16 AllReadyZ.nil
      intro K hK
      simp only[List.getElem_toArray,List.getElem_cons_succ,List.getElem_cons_zero]
      go_simp
      refine (HH.out _ gr0).mono ?_
      rintro e Vc ⟨rfl,k5⟩
      have gr5:=gr0.trans k5
      have hown5:=own_grU HOW.out gr5
      clear k5 hS0
      go_wp2_with fail
      refine hK.out _ _ (fun hnz=>?zs17) (fun _=>?zr18)
      case zs17=>exact Kp.of_gr _ gr5
      clear hK K
      try (simp only[Pu,List.getElem_toArray,List.getElem_cons_succ,List.getElem_cons_zero])
      refine wpAnyZ_ready (rs:=[6]) (by kernel_rfl) (by simp) ?_
      refine AllReadyZ.cons (i:=6) rfl (by kernel_rfl) ?zx19 AllReadyZ.nil
      intro K hK
      simp only[List.getElem_toArray,List.getElem_cons_succ,List.getElem_cons_zero]
      go_simp
      obtain ⟨Vd,hVd⟩:∃Vd,Vd=Vc.alloc (.cells #[.bool u.ok, .int .i64 u.n] 107):=⟨_,rfl⟩
      have g6:Gr Vc Vd:=by rw[hVd];exact Gr.alloc (Gr.refl _) _
      have hrx:Rv Vd (some ⟨Vc.heap.size,0,none⟩) [u]:=by rw[hVd];exact Rv.new rfl 107 [u]
      rw[←hVd]
      clear hVd
      have gr6:=gr5.trans g6
      have hown6:=own_grU hown5 g6
      have hz6:=gr6.size
      clear hown5 g6
      refine hK.out _ _ (fun hnz=>?zs20) (fun _=>?zr21)
      case zs20=>exact Kp.of_gr _ gr6
      clear hK K
      try (simp only[Pu,List.getElem_toArray,List.getElem_cons_succ,List.getElem_cons_zero])
      refine wpAnyZ_ready (rs:=[7]) (by kernel_rfl) (by simp) ?_
      refine AllReadyZ.cons (i:=7) rfl (by kernel_rfl) ?zx22 AllReadyZ.nil
      intro K hK
      simp only[List.getElem_toArray,List.getElem_cons_succ,List.getElem_cons_zero]
      refine wp_append_rd0 (.tmp 128) (.tmp 133) 87 rfl W7.heap.size 107 v0 _ 2 16 Tryz.underlying87 hv0 vz0 vz1 vz2 rfl (by decide) vv j (vcells (VL.take j)) rfl hown6 (some ⟨Vc.heap.size,0,none⟩) 1 1 (vcells [u]) rfl hrx (vcells_one _) (by unfold maxLen;omega) (by omega) (by omega) ?_
      intro v' w7 hown7 hgr7 hat7
      have kp7:Kp (fun k=>vv.ownBlock=some k) wr w7:=(Kp.of_gr (fun k=>vv.ownBlock=some k) gr6).grown hgr7 (fun k e=> .inl e)
      have sr7:=SR.out.1.kp kp7 SR.out.2
      rw[←vcells_append,←HT.out] at hown7
      obtain ⟨A7,c7,hv7⟩:=own_form hown7
      subst hv7
      clear hown6 hgr7 hat7 hrx gr6 gr5 gr0
      refine hK.out _ _ (fun hnz=>?zs23) (fun _=>?zr24)
      case zs23=>exact kp7
      clear hK K
      try (simp only[Pu,List.getElem_toArray,List.getElem_cons_succ,List.getElem_cons_zero])
      refine wpAnyZ_ready (rs:=[8]) (by kernel_rfl) (by simp) ?_
      refine AllReadyZ.cons (i:=8) rfl (by kernel_rfl) ?zx25 AllReadyZ.nil
      intro K hK
      simp only[List.getElem_toArray,List.getElem_cons_succ,List.getElem_cons_zero]
      go_wp2_with fail
      refine hK.out _ _ (fun hnz=>?zs26) (fun _=>?zr27)
      case zs26=>exact kp7
      clear hK K
      try (simp only[Pu,List.getElem_toArray,List.getElem_cons_succ,List.getElem_cons_zero])
      have y3:=sr7.c3
      have yf:=sr7.f3
      have yl:=sr7.lt
      refine wpAnyZ_ready (rs:=[9]) (by kernel_rfl) (by simp) ?_
      refine AllReadyZ.cons (i:=9) rfl (by kernel_rfl) ?zx28 AllReadyZ.nil
      intro K hK
      simp only[List.getElem_toArray,List.getElem_cons_succ,List.getElem_cons_zero]
      go_simp
      refine hK.out _ _ (fun hnz=>?zs29) (fun _=>?zr30)
      case zs29=>exact absurd rfl hnz
      clear hK K
      try (simp only[Pu,List.getElem_toArray,List.getElem_cons_succ,List.getElem_cons_zero])
      refine wpAnyZ_done (by kernel_rfl) ?_ _
      have HF7:Hid (Kp (fun k=>k=sb) W7 (w7.setCell ⟨sb,3,none⟩ (.slice A7 (j+1) c7))∧SrB (w7.setCell ⟨sb,3,none⟩ (.slice A7 (j+1) c7)) sb st S (.slice A7 (j+1) c7)∧(w7.setCell ⟨sb,3,none⟩ (.slice A7 (j+1) c7)).ownsRow W7.heap.size 107 2 (.slice A7 (j+1) c7) (j+1) (vcells (VL.take (j+1)))):=Lib.hid ⟨(HKP.out.trans kp7 (fun i hi e=>by have:=(HOW.out.lt i e).1;omega)).set (p:=⟨sb,3,none⟩) (.inl (show sb=sb from rfl)) _,sr7.put _,own_setU hown7 (show sb<W7.heap.size from hz7) _⟩
      clear y3 yf yl kp7 sr7 hown7
      go_wp2
      go_roundw
      case rel=>exact ⟨j+1,_,HJ.out.1,by rw[HYN.out],HF7.out⟩
      case measure=>have:=HJ.out;simp[intOf];omega
     ·
      have hjN:j=N:=by omega
      subst hjN
      obtain ⟨A7,c7,hv7⟩:=own_form hown
      subst hv7
      have hrv:Rv wr A7 VL:=by
       have:=Rd.own hown
       rw[←HVL.out.2.1,List.take_length] at this
       exact this
      have hyN:¬y<en:=by omega
      have gwr:=gr_over HGW8.out hkp HSEP.out.1
      have hw3:=hw3z
      have HZ:Hid (∀o,wr.cell? ⟨w.heap.size,o,none⟩=V.cell? ⟨w.heap.size,o,none⟩∧wr.frozen? ⟨w.heap.size,o,none⟩=false):=Lib.hid (fun o=>⟨(Below.cell (HG03.out.trans gwr) (p:=⟨w.heap.size,o,none⟩) HVZ.out.1).trans rfl,(Below.frozen (HG03.out.trans gwr) (p:=⟨w.heap.size,o,none⟩) HVZ.out.1).trans (HFZ.out o)⟩)
      have z0:=(HZ.out 0).1.trans HVZ.out.2.1
      have z1:=(HZ.out 1).1.trans HVZ.out.2.2.1
      have z2:=(HZ.out 2).1.trans HVZ.out.2.2.2.1
      have z3:=(HZ.out 3).1.trans HVZ.out.2.2.2.2.1
      have z4:=(HZ.out 4).1.trans HVZ.out.2.2.2.2.2
      have k0:=(HZ.out 0).2
      have k1:=(HZ.out 1).2
      have k2:=(HZ.out 2).2
      have k3:=(HZ.out 3).2
      have k4:=(HZ.out 4).2
      have d0:=hsr.c0
      have d2:=hsr.c2
      have d3:=hsr.c3
      have d4:=hsr.c4
      have d1':=hsr.c1
      have HRV:=Lib.hid (And.intro hrv (And.intro ((HGV.out.trans HG03.out).trans gwr) (hown.lt)))
      have hzwr:=hkp.size
      have hwsb:w.heap.size<wr.heap.size:=by have:=hsr.lt;have:=HSEP.out.1;omega
      clear hrv gwr hown hkp hsr hj0 hjS hsm d1 hy
      go_wp2
      refine bodyPost_ret (v:= .tuple #[.agg #[.string nmA, .int .i64 st, .int .i64 S, .slice A7 j c7, .int .i64 0], .int .i64 0]) (by simp[results,Tryz.results37,go_sem, *]) rfl ?_
      have hq2:whichS m (now-frS m now frm)=q:=by rw[←HQ.out.1,HQ.out.2.2,HST.out.2.2.2]
      have hfe:fetV m D now frm unt=VL:=by unfold fetV;rw[hq2,←HQ.out.1,←HQ.out.2.1,←HST.out.1,←HST.out.2.2.1,←HVL.out.1]
      have K:Kp (fun k=>k=w.heap.size) wr (((((wr.setCell ⟨w.heap.size,0,none⟩ (.string nmA)).setCell ⟨w.heap.size,1,none⟩ (.int .i64 st)).setCell ⟨w.heap.size,2,none⟩ (.int .i64 S)).setCell ⟨w.heap.size,3,none⟩ (.slice A7 j c7)).setCell ⟨w.heap.size,4,none⟩ (.int .i64 0)):=(((((Kp.refl (fun k=>k=w.heap.size) wr).set (.inl rfl) _).set (.inl rfl) _).set (.inl rfl) _).set (.inl rfl) _).set (.inl rfl) _
      refine ⟨((((HRV.out.2.1.setCell (Nat.le_refl _) _).setCell (Nat.le_refl _) _).setCell (Nat.le_refl _) _).setCell (Nat.le_refl _) _).setCell (Nat.le_refl _) _,A7,c7,?_,?_⟩
      ·
       rw[hfe,hq2,←HQ.out.1,←HST.out.1,←HST.out.2.1,HVL.out.2.1]
      ·
       rw[hfe]
       exact K.rd HRV.out.1 (fun _ ad e=>by
        have:=(HRV.out.2.2 ad.block (by rw[e];rfl)).1
        have:=HGW8.out.size
        omega)
end Go.Proofs.YtoncapkmaeghfaaGreat
