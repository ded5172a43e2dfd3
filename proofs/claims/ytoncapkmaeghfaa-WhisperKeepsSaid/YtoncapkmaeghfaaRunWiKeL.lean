import Derived.Test.YtoncapkmaeghfaaRunWiKnw
import Derived.Test.YtoncapkmaeghfaaRunFxBase
import Derived.Test.YtoncapkmaeghfaaRows
import Derived.ProofKit
import Derived.Lib.SmallJoins
import Derived.Deep.SlicePairs
import Derived.Carry
import Derived.ShutString
import Derived.Deep.Slices
set_option linter.all false
set_option maxRecDepth 1000000
set_option maxHeartbeats 12800000
namespace Go.Proofs.Ytoncapkmaeghfaa
open Go.RowKit
theorem keeps_any (ag xf:Nat) (A:Option Addr) (c:Nat) (m:Arcs) (now pt pn:Int) (B:Option Addr) (cb:Nat) (ps:List (Int×Int)) (later:Int) (hM:mayH ag xf (ints m)=true) (hS:sizeS m≤3000) (hcap:m.length≤c) (n1:1≤now) (n2:now≤4294867295) (l1:0≤later) (l2:later≤100000) (hps:ps.length≤20) (hpt:pt≤9223372036854775807) (o1:1≤pt) (o2:pt≤now) (o3:now-pt<(stpS m 0:Int)*cntS m 0) (o4:alignS pt (stpS m 0)≠0) (o5: -4611686018427387904≤pn) (o6:pn≤4611686018427387904) (w:World) (hr:Ri w A (ints m)) (hrb:Ri w B ps) :
  Calls Try.prog 3 #[.agg #[.int .i64 ag, .int .i64 xf, .slice A m.length c], .int .i64 now, .agg #[.int .i64 pt, .int .i64 pn], .slice B ps.length cb, .int .i64 later] w fun e w'=>e= .returned (.bool true)∧Gr w w':=by
 have HO:=Lib.hid (And.intro o1 (And.intro o2 (And.intro o3 (And.intro o4 (And.intro o5 o6)))))
 obtain ⟨V,hV⟩:∃V,V=(w.alloc (.cells #[.int .i64 ag, .int .i64 xf, .slice A m.length c] 24)).alloc (.cells #[.int .i64 pt, .int .i64 pn] 26):=⟨_,rfl⟩
 have gV:Gr w V:=by rw[hV];exact Gr.alloc (Gr.alloc (Gr.refl w) _) _
 have hz:w.heap.size+1<V.heap.size:=by rw[hV];simp
 have hz0:w.heap.size<V.heap.size:=by omega
 have c0:V.cell? ⟨w.heap.size,0,none⟩=some (.int .i64 ag):=by rw[hV];go_simp
 have c1:V.cell? ⟨w.heap.size,1,none⟩=some (.int .i64 xf):=by rw[hV];go_simp
 have c2:V.cell? ⟨w.heap.size,2,none⟩=some (.slice A m.length c):=by rw[hV];go_simp
 have b0:V.cell? ⟨w.heap.size+1,0,none⟩=some (.int .i64 pt):=by rw[hV];go_simp
 have b1:V.cell? ⟨w.heap.size+1,1,none⟩=some (.int .i64 pn):=by rw[hV];go_simp
 have HV:=Lib.hid hV
 have HGV:=Lib.hid gV
 have hF:=MayF.ofH hM
 have hl0:0<m.length:=hF.l1
 have hrV:Ri V A (ints m):=hr.gr gV
 obtain ⟨ad,rfl,hb,hc⟩:=hrV (by rw[ints_len];exact hl0)
 obtain ⟨p0,p1⟩:=hc 0 (by rw[ints_len];exact hl0)
 rw[ints_at m 0 hl0,Nat.zero_mul,show ad.add 0=ad from by unfold Addr.add;simp] at p0 p1
 simp only at p0 p1
 rw[←stpS_at hl0] at p0
 rw[←cntS_at hl0] at p1
 have hsc:=hF.s1 0 hl0
 have hcc:=hF.c1 0 hl0
 have hsm:=fun W (hW:Ri W (some ad) (ints m))=>small_any ag xf (some ad) c (ints m) W hW
 have hSB:smallB ag xf (ints m)=true:=by unfold smallB;rw[hM,nats_ints,Bool.true_and,Nat.ble_eq];exact hS
 rw[ints_len,hSB] at hsm
 have HSM:=Lib.hid hsm
 have HRV:=Lib.hid hrV
 have HF:=Lib.hid hF
 have HM:=Lib.hid hM
 have q1:¬now<1:=by omega
 have q2:¬4294867295<now:=by omega
 have q3:¬later<0:=by omega
 have q4:¬100000<later:=by omega
 have q5:¬(20:Int)<(ps.length:Int):=by omega
 have q6:(0:Int)<(m.length:Int):=by omega
 obtain ⟨al,hal⟩:∃al,al=alignS pt (stpS m 0):=⟨_,rfl⟩
 have hali:=fun W=>ralign_any pt (stpS m 0) hpt W
 rw[←hal] at hali
 have hwm:=prod_small (stpS m 0:Int) (cntS m 0) (by omega) (by omega) (by omega) (by omega)
 obtain ⟨s,hs⟩:∃s:Int,s=(stpS m 0:Nat):=⟨_,rfl⟩
 obtain ⟨k,hk⟩:∃k:Int,k=(cntS m 0:Nat):=⟨_,rfl⟩
 have hs1:1≤s∧s≤16777216:=by omega
 have hk1:1≤k∧k≤16777216:=by omega
 have HSK:=Lib.hid (And.intro hs hk)
 rw[←hs] at p0 hwm hali hal o3 o4
 rw[←hk] at p1 hwm o3
 have hpr:1≤s*k∧s*k≤281474976710656:=⟨by have:=Int.mul_le_mul hs1.1 hk1.1 (by omega) (by omega);omega,by have:=Int.mul_le_mul hs1.2 hk1.2 (by omega) (by omega);omega⟩
 have HALI:=Lib.hid hali
 have HAL:=Lib.hid hal
 have hag:=align_le (t:=pt) (s:=s) (by omega) (by omega)
 rw[←hal] at hag o4
 have hal1:1≤al:=by omega
 have hal2:al≤pt:=hag.2.1
 have hal3:pt<al+s:=hag.2.2
 have x1:¬pt<1:=by omega
 have x2:¬now<pt:=by omega
 have x3:¬s*k≤now-pt:=by omega
 have x4:¬al=0:=by omega
 have x4b:(al==0)=false:=beq_eq_false_iff_ne.2 x4
 have x5:¬pn < -4611686018427387904:=by omega
 have x6:¬4611686018427387904<pn:=by omega
 have wd:IntKind.i64.wrap (now-pt)=now-pt:=IntWalk.i64_in _ (by omega)
 clear hag
 have HS:=Lib.hid hS
 have HCAP:=Lib.hid hcap
 have HPS:=Lib.hid hps
 have HRB:=Lib.hid (hrb.gr gV)
 clear hrb hcap hps hV gV hrV hc hsm hSB hali hal hs hk hsc hcc hF hM hS hr
 go_enter Try.func3,Try.ntmps3
 go_upto_region 1 with (fail)
 rw[←HV.out]
 clear HV
 go_upto_region 4 with (go_at_call 6;refine (HSM.out _ HRV.out).mono ?_;rintro e w1 ⟨rfl,g1⟩;have d0:=(Below.cell g1 (p:=⟨w.heap.size,0,none⟩) hz0).trans c0;have d1:=(Below.cell g1 (p:=⟨w.heap.size,1,none⟩) hz0).trans c1;have d2:=(Below.cell g1 (p:=⟨w.heap.size,2,none⟩) hz0).trans c2;have f0:=(Below.cell g1 (p:=⟨w.heap.size+1,0,none⟩) hz).trans b0;have f1:=(Below.cell g1 (p:=⟨w.heap.size+1,1,none⟩) hz).trans b1;have hz1:=Nat.lt_of_lt_of_le hz g1.size;have hz10:=Nat.lt_of_lt_of_le hz0 g1.size;have HG1:=Lib.hid (HGV.out.trans g1);have HRW1:=Lib.hid (HRV.out.gr g1);have y0:=(Below.cell g1 (p:=ad) hb).trans p0;have y1:=(Below.cell g1 (p:=⟨ad.block,ad.off+1,none⟩) hb).trans p1;have HGW:=Lib.hid g1;clear p0 p1 hb;clear c0 c1 c2 b0 b1 hz hz0 g1 HGV HRV)
 have C1:KeC w.heap.size (w.heap.size+1) w1.heap.size ag xf pt pn s k (some ad) m.length c (w1.alloc (.cells #[.int .i64 s, .int .i64 k] 30)):=by
  have gA:Gr w1 (w1.alloc (.cells #[.int .i64 s, .int .i64 k] 30)):=Gr.alloc (Gr.refl w1) _
  refine ⟨Nat.lt_of_lt_of_le hz10 gA.size,Nat.lt_of_lt_of_le hz1 gA.size,by simp,(Below.cell gA (p:=⟨w.heap.size,0,none⟩) hz10).trans d0,(Below.cell gA (p:=⟨w.heap.size,1,none⟩) hz10).trans d1,(Below.cell gA (p:=⟨w.heap.size,2,none⟩) hz10).trans d2,(Below.cell gA (p:=⟨w.heap.size+1,0,none⟩) hz1).trans f0,(Below.cell gA (p:=⟨w.heap.size+1,1,none⟩) hz1).trans f1,by go_simp,by go_simp⟩
 have HGA:Hid (Gr w (w1.alloc (.cells #[.int .i64 s, .int .i64 k] 30))∧Gr V (w1.alloc (.cells #[.int .i64 s, .int .i64 k] 30))):=Lib.hid ⟨HG1.out.alloc _,HGW.out.alloc _⟩
 have HRA:=Lib.hid (HRW1.out.gr (Gr.alloc (Gr.refl w1) (.cells #[.int .i64 s, .int .i64 k] 30)))
 obtain ⟨V2,hV2⟩:∃V2,V2=w1.alloc (.cells #[.int .i64 s, .int .i64 k] 30):=⟨_,rfl⟩
 rw[←hV2] at C1 HGA HRA ⊢
 obtain ⟨hb,hhb⟩:∃hb,hb=w.heap.size:=⟨_,rfl⟩
 obtain ⟨pb,hpb⟩:∃pb,pb=w.heap.size+1:=⟨_,rfl⟩
 obtain ⟨ab,hab⟩:∃ab,ab=w1.heap.size:=⟨_,rfl⟩
 rw[←hpb,←hhb,←hab] at C1
 rw[←hpb,←hhb,←hab]
 clear hV2 hhb hpb hab d0 d1 d2 f0 f1 hz1 hz10 y0 y1 HG1 HRW1 HGW
 have HC1:=Lib.hid C1
 obtain ⟨zh,zp,za,h0,h1,h2,r0,r1,a0,a1⟩:=C1
 have hRB2:=HRB.out.gr HGA.out.2
 have HRB2:=Lib.hid hRB2
 clear hRB2 HRB
 go_upto_region 8 with (first|(go_at_call 7;refine (HALI.out _).mono ?_;rintro e w2 ⟨rfl,rfl⟩)|(go_at_call 8;refine (vnew_any 65536 (by omega) (by omega) _).mono ?_;rintro e w3 ⟨rfl,hf3,g3⟩;have H3:=Lib.hid (And.intro hf3 g3);clear hf3 g3))
 have hsz:=HGA.out.1.size
 obtain ⟨F,hF⟩:∃F,F=V2.heap.size+3:=⟨_,rfl⟩
 obtain ⟨P,hP⟩:∃P,P=V2.heap.size+1:=⟨_,rfl⟩
 obtain ⟨M,hM⟩:∃M,M=V2.heap.size+2:=⟨_,rfl⟩
 rw[←hF,←hP,←hM] at H3
 rw[←hF]
 have HPM:=Lib.hid (show V2.heap.size≤P∧V2.heap.size≤M by omega)
 have hcr:=wcreate_any ag xf (some ad) c m HM.out HCAP.out (by omega) (by have:=HS.out;omega) (by omega) w3 H3.out.1 (HRA.out.gr H3.out.2)
 rw[←nmA_eq] at hcr
 have HCR:Hid (Calls Try.prog 9 #[.pointer (some ⟨F,0,none⟩), .string ⟨#[97]⟩, .agg #[.int .i64 ag, .int .i64 xf, .slice (some ad) m.length c]] w3 fun e w'=>e= .returned (.int .i64 0)∧FsM (fun _=>False) w' F P M none 65536 0 (some (newS ag xf m))∧Kp (Tch P M none) w3 w'):=Lib.hid hcr
 have G3:=H3.out.2
 have y0:=(Below.cell G3 (p:=⟨hb,0,none⟩) zh).trans h0
 have y1:=(Below.cell G3 (p:=⟨hb,1,none⟩) zh).trans h1
 have y2:=(Below.cell G3 (p:=⟨hb,2,none⟩) zh).trans h2
 clear hF hP hM hcr hsz zh zp za h0 h1 h2 r0 r1 a0 a1 G3
 go_upto_region 10 with (go_at_call 9;refine HCR.out.mono ?_;rintro e w4 ⟨rfl,hf4,hk4⟩;have H4:=Lib.hid (And.intro hf4 (gr_tch H3.out.2 hk4 HPM.out.1 HPM.out.2 (fun _ e=>by cases e)));clear hf4 hk4)
 clear y0 y1 y2
 have C4:=HC1.out.gr H4.out.2
 have r0:=C4.p0
 have r1:=C4.p1
 obtain ⟨V5,hV5⟩:∃V5,V5=w4.alloc (.cells #[.int .i64 pt, .int .i64 pn] 26):=⟨_,rfl⟩
 have g5:Gr w4 V5:=by rw[hV5];exact Gr.alloc (Gr.refl w4) _
 have hN:=newS_ok ag xf m
 have hDl:((newS ag xf m).length:Int)≤1073741824:=by rw[hN.1];have:=HS.out;omega
 have hup:=wupdate_any hDl (opS_hdr HM.out hN) now (by omega) (by omega) (some ⟨w4.heap.size,0,none⟩) 1 [(pt,pn)] (by simp) (by omega) V5 (H4.out.1.gr g5) (by rw[hV5];exact Ri.lit1 w4 pt pn _) (fun a e=>by
  injection e with e
  subst e
  intro e
  have h1:=H4.out.1.lp
  have h2:=H4.out.1.lm
  rcases e with e|e|e
  ·
   simp only at e;omega
  ·
   simp only at e;omega
  ·
   cases e)
 rw[←nmA_eq] at hup
 have hfst:=Kep.first (a:=(ag:Int)) (x:=(xf:Int)) hN HF.out HO.out.1 HO.out.2.1 HO.out.2.2.1 (by omega) HO.out.2.2.2.1 HO.out.2.2.2.2.1 HO.out.2.2.2.2.2
 rw[←HSK.out.1,←HAL.out] at hfst
 rw[hfst.1] at hup
 obtain ⟨D1,hD1⟩:∃D1,D1=(updS (ag:Int) (xf:Int) m now [(pt,pn)] (0,newS ag xf m)).2:=⟨_,rfl⟩
 rw[←hD1] at hup hfst
 have HUP:Hid (Calls Try.prog 10 #[.pointer (some ⟨F,0,none⟩), .string ⟨#[97]⟩, .int .i64 now, .slice (some ⟨w4.heap.size,0,none⟩) 1 1] V5 fun e w'=>e= .returned (.tuple #[.int .i64 ((1:Nat):Int), .int .i64 0])∧FsM (fun _=>False) w' F P M none 65536 0 (some D1)∧Kp (Tch P M none) V5 w'):=Lib.hid hup
 have HK1:=Lib.hid hfst.2
 have HG5:=Lib.hid (H4.out.2.trans g5)
 have HV5:=Lib.hid hV5
 clear hup hfst hD1 hV5 g5 hN hDl C4
 go_upto_region 13 with (go_at_call 10;rw[←HV5.out];refine HUP.out.mono ?_;rintro e w6 ⟨rfl,hf6,hk6⟩;have H6:=Lib.hid (And.intro hf6 (gr_tch HG5.out hk6 HPM.out.1 HPM.out.2 (fun _ e=>by cases e)));clear hf6 hk6)
 clear r0 r1
 go_wp2
 go_loopw [17] (fun i wr=>∃(q:Nat) (D:List UInt8),q≤ps.length∧i= .int .i64 q∧Gr V2 wr∧FsM (fun _=>False) wr F P M none 65536 0 (some D)∧Kep ag xf m al pn D) (fun i _=>ps.length-(intOf i).toNat)
 case atStart=>exact ⟨0,D1,Nat.zero_le _,rfl,H6.out.2,H6.out.1,HK1.out⟩
 case round=>
  obtain ⟨q,D,hq,rfl,hgr,hfs,hkp⟩:=hrel
  have C:=HC1.out.gr hgr
  have HIN:=Lib.hid (And.intro hgr (And.intro hfs hkp))
  by_cases hlt:q<ps.length
  ·
   have hlti:(q:Int)<(ps.length:Int):=by omega
   have hpi:(ps.length:Int)≤20:=by have:=HPS.out;omega
   obtain ⟨bd,rfl,hbd,hbc⟩:=(HRB2.out.gr hgr) (by omega)
   have hbn:∀z,(bd.add z).block<wr.heap.size:=fun z=>by rw[adB];exact hbd
   obtain ⟨t0,t1⟩:=hbc q hlt
   obtain ⟨t,ht⟩:∃t,t=ps[q].1:=⟨_,rfl⟩
   obtain ⟨v,hv⟩:∃v,v=ps[q].2:=⟨_,rfl⟩
   rw[←ht] at t0
   rw[←hv] at t1
   obtain ⟨zh,zp,za,h0,h1,h2,r0,r1,a0,a1⟩:=C
   clear ht hv hbc hbd hgr hfs hkp h0 h1 h2 zh
   go_upto_region 16 with (fail)
   by_cases c1:0<t
   ·
    have d1:decide (0<t)=true:=decide_eq_true c1
    by_cases c2:t≤now
    ·
     have d2:decide (t≤now)=true:=decide_eq_true c2
     have hplq:=fun W=>rplace_any s k t (by omega) (by omega) (by omega) W
     have hplp:=fun W=>rplace_any s k pt (by omega) (by omega) (by omega) W
     obtain ⟨pq,hpq⟩:∃pq,pq=placeS s k t:=⟨_,rfl⟩
     obtain ⟨pp,hpp⟩:∃pp,pp=placeS s k pt:=⟨_,rfl⟩
     rw[←hpq] at hplq
     rw[←hpp] at hplp
     have HPQ:=Lib.hid hplq
     have HPP:=Lib.hid hplp
     by_cases c3:pq=pp
     ·
      subst c3
      have d3:(pq==pq)=true:=beq_self_eq_true pq
      have d4:(pq != pq)=false:=by rw[bne_self_eq_false]
      clear hplq hplp hpq hpp
      refine region_R (by kernel_rfl) (by kernel_rfl) ?_
      iterate 4 (refine rv ?_;simp only[Pu])
      refine r_val (v:=?qv5) (by kernel_rfl) (fun W hW=>?qh5) ?qr5
      case qh5=>have e0:=(Below.cell hW (p:=bd.add (q*2)) (hbn _)).trans t0;go_light;go_simp;rfl
      simp only[Pu]
      iterate 6 (refine rv ?_;simp only[Pu])
      refine r_val (v:=?qv12) (by kernel_rfl) (fun W hW=>?qh12) ?qr12
      case qh12=>have e0:=(Below.cell hW (p:=bd.add (q*2)) (hbn _)).trans t0;go_light;go_simp;rfl
      simp only[Pu]
      iterate 4 (refine rv ?_;simp only[Pu])
      refine r_val (v:=?qv17) (by kernel_rfl) (fun W hW=>?qh17) ?qr17
      case qh17=>have e1:=(Below.cell hW (p:=⟨ab,0,none⟩) za).trans a0;have e2:=(Below.cell hW (p:=⟨ab,1,none⟩) za).trans a1;go_light;go_simp;rfl
      simp only[Pu]
      iterate 4 (refine rv ?_;simp only[Pu])
      refine r_val (v:=?qv22) (by kernel_rfl) (fun W hW=>?qh22) ?qr22
      case qh22=>have e0:=(Below.cell hW (p:=bd.add (q*2)) (hbn _)).trans t0;go_light;go_simp;rfl
      simp only[Pu]
      refine r_call (v:= .int .i64 pq) (f:=?qf23) (args:=?qa23) (by kernel_rfl) (fun W hW=>?qh23) (fun W hW=>?qc23) ?qr23
      case qh23=>go_light;go_simp;constructor<;>rfl
      case qc23=>exact (HPQ.out _).mono (fun e w' h=>⟨h.1,Gr.trans hW h.2⟩)
      simp only[Pu]
      refine r_val (v:=?qv24) (by kernel_rfl) (fun W hW=>?qh24) ?qr24
      case qh24=>have e1:=(Below.cell hW (p:=⟨ab,0,none⟩) za).trans a0;have e2:=(Below.cell hW (p:=⟨ab,1,none⟩) za).trans a1;go_light;go_simp;rfl
      simp only[Pu]
      refine rv ?_;simp only[Pu]
      refine r_val (v:=?qv26) (by kernel_rfl) (fun W hW=>?qh26) ?qr26
      case qh26=>have e3:=(Below.cell hW (p:=⟨pb,0,none⟩) zp).trans r0;go_light;go_simp;rfl
      simp only[Pu]
      refine r_call (v:= .int .i64 pq) (f:=?qf27) (args:=?qa27) (by kernel_rfl) (fun W hW=>?qh27) (fun W hW=>?qc27) ?qr27
      case qh27=>go_light;go_simp;constructor<;>rfl
      case qc27=>exact (HPP.out _).mono (fun e w' h=>⟨h.1,Gr.trans hW h.2⟩)
      simp only[Pu]
      iterate 2 (refine rv ?_;simp only[Pu])
      refine r_nil ?_
      intro w8 hw8
      have H8:=Lib.hid hw8
      clear hw8
      go_wp2
      go_roundw
      case rel=>exact ⟨q+1,D,by omega,by go_num,HIN.out.1.trans H8.out,HIN.out.2.1.gr H8.out,HIN.out.2.2⟩
      case measure=>simp[intOf];omega
     ·
      have d3:(pq==pp)=false:=beq_eq_false_iff_ne.2 c3
      have d4:(pq != pp)=true:=by rw[bne_iff_ne];exact c3
      have HPD:Hid (pS m 0 t≠pS m 0 al):=Lib.hid (by
       rw[HAL.out,HSK.out.1,pS_align HF.out HF.out.l1 (by omega)]
       unfold pS
       rw[←HSK.out.1,←HSK.out.2,←hpq,←hpp]
       have b1:=placeS_lt (t:=t) (step:=s) (count:=k) (by omega)
       have b2:=placeS_lt (t:=pt) (step:=s) (count:=k) (by omega)
       rw[←hpq] at b1
       rw[←hpp] at b2
       omega)
      clear hplq hplp hpq hpp
      refine region_R (by kernel_rfl) (by kernel_rfl) ?_
      iterate 4 (refine rv ?_;simp only[Pu])
      refine r_val (v:=?qv34) (by kernel_rfl) (fun W hW=>?qh34) ?qr34
      case qh34=>have e0:=(Below.cell hW (p:=bd.add (q*2)) (hbn _)).trans t0;go_light;go_simp;rfl
      simp only[Pu]
      iterate 6 (refine rv ?_;simp only[Pu])
      refine r_val (v:=?qv41) (by kernel_rfl) (fun W hW=>?qh41) ?qr41
      case qh41=>have e0:=(Below.cell hW (p:=bd.add (q*2)) (hbn _)).trans t0;go_light;go_simp;rfl
      simp only[Pu]
      iterate 4 (refine rv ?_;simp only[Pu])
      refine r_val (v:=?qv46) (by kernel_rfl) (fun W hW=>?qh46) ?qr46
      case qh46=>have e1:=(Below.cell hW (p:=⟨ab,0,none⟩) za).trans a0;have e2:=(Below.cell hW (p:=⟨ab,1,none⟩) za).trans a1;go_light;go_simp;rfl
      simp only[Pu]
      iterate 4 (refine rv ?_;simp only[Pu])
      refine r_val (v:=?qv51) (by kernel_rfl) (fun W hW=>?qh51) ?qr51
      case qh51=>have e0:=(Below.cell hW (p:=bd.add (q*2)) (hbn _)).trans t0;go_light;go_simp;rfl
      simp only[Pu]
      refine r_call (v:= .int .i64 pq) (f:=?qf52) (args:=?qa52) (by kernel_rfl) (fun W hW=>?qh52) (fun W hW=>?qc52) ?qr52
      case qh52=>go_light;go_simp;constructor<;>rfl
      case qc52=>exact (HPQ.out _).mono (fun e w' h=>⟨h.1,Gr.trans hW h.2⟩)
      simp only[Pu]
      refine r_val (v:=?qv53) (by kernel_rfl) (fun W hW=>?qh53) ?qr53
      case qh53=>have e1:=(Below.cell hW (p:=⟨ab,0,none⟩) za).trans a0;have e2:=(Below.cell hW (p:=⟨ab,1,none⟩) za).trans a1;go_light;go_simp;rfl
      simp only[Pu]
      refine rv ?_;simp only[Pu]
      refine r_val (v:=?qv55) (by kernel_rfl) (fun W hW=>?qh55) ?qr55
      case qh55=>have e3:=(Below.cell hW (p:=⟨pb,0,none⟩) zp).trans r0;go_light;go_simp;rfl
      simp only[Pu]
      refine r_call (v:= .int .i64 pp) (f:=?qf56) (args:=?qa56) (by kernel_rfl) (fun W hW=>?qh56) (fun W hW=>?qc56) ?qr56
      case qh56=>go_light;go_simp;constructor<;>rfl
      case qc56=>exact (HPP.out _).mono (fun e w' h=>⟨h.1,Gr.trans hW h.2⟩)
      simp only[Pu]
      iterate 2 (refine rv ?_;simp only[Pu])
      refine r_nil ?_
      intro w8 hw8
      have z8:Gr V2 w8:=HIN.out.1.trans hw8
      have e0:=(Below.cell hw8 (p:=bd.add (q*2)) (hbn _)).trans t0
      have e1:=(Below.cell hw8 (p:=⟨(bd.add (q*2)).block,(bd.add (q*2)).off+1,none⟩) (hbn _)).trans t1
      obtain ⟨V7,hV7⟩:∃V7,V7=w8.alloc (.cells #[.int .i64 t, .int .i64 v] 26):=⟨_,rfl⟩
      have g7:Gr w8 V7:=by rw[hV7];exact Gr.alloc (Gr.refl w8) _
      have hfs7:=(HIN.out.2.1.gr hw8).gr g7
      have hDl:(D.length:Int)≤1073741824:=by rw[HIN.out.2.2.ok.1];have:=HS.out;omega
      have hup:=wupdate_any hDl (opS_hdr HM.out HIN.out.2.2.ok) now (by omega) (by omega) (some ⟨w8.heap.size,0,none⟩) 1 [(t,v)] (by simp) (by omega) V7 hfs7 (by rw[hV7];exact Ri.lit1 w8 t v _) (fun a e=>by
       injection e with e
       subst e
       intro e
       have h1:=(HIN.out.2.1.gr hw8).lp
       have h2:=(HIN.out.2.1.gr hw8).lm
       rcases e with e|e|e
       ·
        simp only at e;omega
       ·
        simp only at e;omega
       ·
        cases e)
      rw[←nmA_eq] at hup
      have hkd:Kep ag xf m al pn (updS (ag:Int) (xf:Int) m now [(t,v)] (0,D)).2:=HIN.out.2.2.upd HF.out (HPD.out)
      obtain ⟨U,hU⟩:∃U,U=updS (ag:Int) (xf:Int) m now [(t,v)] (0,D):=⟨_,rfl⟩
      rw[←hU] at hup hkd
      have HUP:Hid (Calls Try.prog 10 #[.pointer (some ⟨F,0,none⟩), .string ⟨#[97]⟩, .int .i64 now, .slice (some ⟨w8.heap.size,0,none⟩) 1 1] V7 fun e w'=>e= .returned (.tuple #[.int .i64 (U.1:Nat), .int .i64 0])∧FsM (fun _=>False) w' F P M none 65536 0 (some U.2)∧Kp (Tch P M none) V7 w'):=Lib.hid hup
      have HKD:=Lib.hid hkd
      have HZ7:=Lib.hid (z8.trans g7)
      have HV7:=Lib.hid hV7
      clear hup hkd hU hV7 g7 hfs7 hDl z8 hw8 t0 t1
      go_wp2_with (go_at_call 10;rw[←HV7.out];refine HUP.out.mono ?_;rintro e w9 ⟨rfl,hf9,hk9⟩;have H9:=Lib.hid (And.intro hf9 (gr_tch HZ7.out hk9 HPM.out.1 HPM.out.2 (fun _ e=>by cases e)));clear hf9 hk9)
      go_roundw
      case rel=>exact ⟨q+1,U.2,by omega,by go_num,H9.out.2,H9.out.1,HKD.out⟩
      case measure=>simp[intOf];omega
    ·
     have d2:decide (t≤now)=false:=decide_eq_false c2
     refine region_R (by kernel_rfl) (by kernel_rfl) ?_
     iterate 4 (refine rv ?_;simp only[Pu])
     refine r_val (v:=?qv63) (by kernel_rfl) (fun W hW=>?qh63) ?qr63
     case qh63=>have e0:=(Below.cell hW (p:=bd.add (q*2)) (hbn _)).trans t0;go_light;go_simp;rfl
     simp only[Pu]
     iterate 6 (refine rv ?_;simp only[Pu])
     refine r_val (v:=?qv70) (by kernel_rfl) (fun W hW=>?qh70) ?qr70
     case qh70=>have e0:=(Below.cell hW (p:=bd.add (q*2)) (hbn _)).trans t0;go_light;go_simp;rfl
     simp only[Pu]
     iterate 4 (refine rv ?_;simp only[Pu])
     iterate 12 (refine rs ?_;simp only[Pu])
     refine rv ?_;simp only[Pu]
     refine r_nil ?_
     intro w8 hw8
     have H8:=Lib.hid hw8
     clear hw8
     go_wp2
     go_roundw
     case rel=>exact ⟨q+1,D,by omega,by go_num,HIN.out.1.trans H8.out,HIN.out.2.1.gr H8.out,HIN.out.2.2⟩
     case measure=>simp[intOf];omega
   ·
    have d1:decide (0<t)=false:=decide_eq_false c1
    refine region_R (by kernel_rfl) (by kernel_rfl) ?_
    iterate 4 (refine rv ?_;simp only[Pu])
    refine r_val (v:=?qv80) (by kernel_rfl) (fun W hW=>?qh80) ?qr80
    case qh80=>have e0:=(Below.cell hW (p:=bd.add (q*2)) (hbn _)).trans t0;go_light;go_simp;rfl
    simp only[Pu]
    iterate 2 (refine rv ?_;simp only[Pu])
    iterate 7 (refine rs ?_;simp only[Pu])
    iterate 2 (refine rv ?_;simp only[Pu])
    iterate 12 (refine rs ?_;simp only[Pu])
    refine rv ?_;simp only[Pu]
    refine r_nil ?_
    intro w8 hw8
    have H8:=Lib.hid hw8
    clear hw8
    go_wp2
    go_roundw
    case rel=>exact ⟨q+1,D,by omega,by go_num,HIN.out.1.trans H8.out,HIN.out.2.1.gr H8.out,HIN.out.2.2⟩
    case measure=>simp[intOf];omega
  ·
   have hqe:q=ps.length:=by omega
   subst hqe
   clear hlt
   obtain ⟨zh,zp,za,h0,h1,h2,r0,r1,a0,a1⟩:=C
   have w1a:IntKind.i64.wrap (now+later)=now+later:=IntWalk.i64_in _ (by omega)
   have w1b:IntKind.i64.wrap (al-1)=al-1:=IntWalk.i64_in _ (by omega)
   have w1c:IntKind.i64.wrap (now+later-(al-1))=now+later-(al-1):=IntWalk.i64_in _ (by omega)
   by_cases hbig:s*k<now+later-(al-1)
   ·
    clear hgr hfs hkp zh zp h0 h1 h2 r0 r1
    go_wp2_with (go_at_call 12;refine (known7_any _).mono ?_;rintro e w9 ⟨rfl,g9⟩;have HK:=Lib.hid g9;clear g9)
    go_ret
    exact ⟨rfl,(HGA.out.1.trans HIN.out.1).trans HK.out⟩
   ·
    have hft:=Kep.fetch (m:=m) (q:=pt) (n:=pn) (D:=D) (ag:=ag) (xf:=xf) (by have h:=HM.out;unfold mayH at h;rw[nats_ints,Bool.and_eq_true] at h;exact h.2) (by rw[←HSK.out.1,←HAL.out];exact hkp) (by omega) (by rw[←HSK.out.1,←HAL.out];exact x4) (now:=now+later) (by omega) (by rw[←HSK.out.1,←HSK.out.2,←HAL.out];omega)
    rw[←HSK.out.1,←HAL.out] at hft
    obtain ⟨ft1,ft2,ft3,r,ft4⟩:=hft
    have hDl:(D.length:Int)≤1073741824:=by rw[hkp.ok.1];have:=HS.out;omega
    have hfe:=wfetch_any hDl (opS_hdr HM.out hkp.ok) (now+later) (al-1) al (by omega) (by omega) (by omega) (by omega) (by omega) ft1 wr hfs
    unfold RetFe at hfe
    rw[←nmA_eq,ft2,ft3,ft4,←HSK.out.1] at hfe
    obtain ⟨n1v,hn1⟩:∃n1v,n1v=((⟨true,pn⟩:Vl)::r).length:=⟨_,rfl⟩
    have hn1i:¬(n1v:Int)<1:=by rw[hn1,List.length_cons];omega
    have hn1j:(0:Int)<(n1v:Int):=by omega
    rw[←hn1] at hfe
    have HFE:=Lib.hid hfe
    have hsne:(s==s)=true:=beq_self_eq_true s
    have hsnn:(s != s)=false:=by rw[bne_self_eq_false]
    clear hfe ft1 ft2 ft3 ft4 hDl hn1 hgr hfs hkp
    go_upto_region 21 with (go_at_call 13;refine HFE.out.mono ?_;rintro e w9 ⟨g9,A9,c9,rfl,hr9⟩;have H9:=Lib.hid (And.intro g9 hr9);have r1b:=(Below.cell g9 (p:=⟨pb,1,none⟩) zp).trans r1;have a0b:=(Below.cell g9 (p:=⟨ab,0,none⟩) za).trans a0;have zpb:=Nat.lt_of_lt_of_le zp g9.size;have zab:=Nat.lt_of_lt_of_le za g9.size;clear g9 hr9)
    clear zh zp za h0 h1 h2 r0 r1 a0 a1
    obtain ⟨V9,hV9⟩:∃V9,V9=w9.alloc (.cells #[.string ⟨#[97]⟩, .int .i64 al, .int .i64 s, .slice A9 n1v c9, .int .i64 0] 43):=⟨_,rfl⟩
    have g9v:Gr w9 V9:=by rw[hV9];exact Gr.alloc (Gr.refl w9) _
    have s1:V9.cell? ⟨w9.heap.size,1,none⟩=some (.int .i64 al):=by rw[hV9];go_simp
    have s2:V9.cell? ⟨w9.heap.size,2,none⟩=some (.int .i64 s):=by rw[hV9];go_simp
    have s3:V9.cell? ⟨w9.heap.size,3,none⟩=some (.slice A9 n1v c9):=by rw[hV9];go_simp
    have zs:w9.heap.size<V9.heap.size:=by rw[hV9];simp
    have r1:=(Below.cell g9v (p:=⟨pb,1,none⟩) zpb).trans r1b
    have a0:=(Below.cell g9v (p:=⟨ab,0,none⟩) zab).trans a0b
    have zp:=Nat.lt_of_lt_of_le zpb g9v.size
    obtain ⟨av,hav,zvb,v0b,v1b⟩:=H9.out.2.at (show 0<((⟨true,pn⟩:Vl)::r).length by simp)
    subst hav
    rw[show av.add (0*2)=av from by unfold Addr.add;simp] at v0b v1b
    simp only[List.getElem_cons_zero] at v0b v1b
    have v0:=(Below.cell g9v (p:=av) zvb).trans v0b
    have v1:=(Below.cell g9v (p:=⟨av.block,av.off+1,none⟩) zvb).trans v1b
    have zv:=Nat.lt_of_lt_of_le zvb g9v.size
    have HG9:=Lib.hid ((HGA.out.1.trans HIN.out.1).trans (H9.out.1.trans g9v))
    rw[←hV9]
    obtain ⟨sb,hsb⟩:∃sb,sb=w9.heap.size:=⟨_,rfl⟩
    rw[←hsb] at s1 s2 s3 zs ⊢
    clear hV9 g9v v0b v1b zvb r1b a0b zpb zab hsb
    go_wp2
    go_loopw [20] (fun i wr=>i= .int .i64 0∧wr=V9) (fun _ _=>0)
    case atStart=>exact ⟨rfl,rfl⟩
    case round=>
     obtain ⟨rfl,rfl⟩:=hrel
     go_upto_region 27 with (fail)
     refine region_R (by kernel_rfl) (by kernel_rfl) ?_
     refine rv ?_;simp only[Pu]
     refine r_val (v:=?qv87) (by kernel_rfl) (fun W hW=>?qh87) ?qr87
     case qh87=>have e0:=(Below.cell hW (p:=⟨sb,3,none⟩) zs).trans s3;go_light;go_simp;rfl
     simp only[Pu]
     iterate 2 (refine rv ?_;simp only[Pu])
     refine r_val (v:=?qv90) (by kernel_rfl) (fun W hW=>?qh90) ?qr90
     case qh90=>have e1:=(Below.cell hW (p:=av) zv).trans v0;have e2:=(Below.cell hW (p:=⟨av.block,av.off+1,none⟩) zv).trans v1;go_light;go_simp;rfl
     simp only[Pu]
     refine rv ?_;simp only[Pu]
     refine r_val (v:=?qv92) (by kernel_rfl) (fun W hW=>?qh92) ?qr92
     case qh92=>have e3:=(Below.cell hW (p:=⟨pb,1,none⟩) zp).trans r1;go_light;go_simp;rfl
     simp only[Pu]
     iterate 3 (refine rv ?_;simp only[Pu])
     refine r_call (v:= .bool true) (f:=?qf96) (args:=?qa96) (by kernel_rfl) (fun W hW=>?qh96) (fun W hW=>?qc96) ?qr96
     case qh96=>go_light;go_simp;constructor<;>rfl
     case qc96=>exact (known7_any _).mono (fun e w' h=>⟨h.1,Gr.trans hW h.2⟩)
     simp only[Pu]
     iterate 2 (refine rv ?_;simp only[Pu])
     refine r_nil ?_
     intro w11 hw11
     have HK:=Lib.hid hw11
     clear hw11
     go_wp2
     go_ret
     exact ⟨rfl,HG9.out.trans HK.out⟩
theorem law_WhisperKeeps (ag xf:Int) (A:Option Addr) (c:Nat) (l:List (Int×Int)) (now pt pn:Int) (B:Option Addr) (cb:Nat) (ps:List (Int×Int)) (later:Int) (w:World) (hr:Ri w A l) (hcap:l.length≤c) (hrb:Ri w B ps) (hpt:pt≤9223372036854775807) :
  Calls Try.prog 3 #[.agg #[.int .i64 ag, .int .i64 xf, .slice A l.length c], .int .i64 now, .agg #[.int .i64 pt, .int .i64 pn], .slice B ps.length cb, .int .i64 later] w fun e w'=>e= .returned (.bool true)∧Gr w w':=by
 by_cases h:smallB ag xf l=false∨(now<1∨4294867295<now∨later<0∨100000<later∨20<ps.length)
 ·
  exact keeps_none ag xf A c l now pt pn B cb ps later w hr h
 ·
  have hs:smallB ag xf l=true:=by
   cases e:smallB ag xf l
   ·
    exact absurd (.inl e) h
   ·
    rfl
  unfold smallB at hs
  rw[Bool.and_eq_true,Nat.ble_eq] at hs
  obtain ⟨m,rfl,hm,h1,h2,h3,h4⟩:=mayH_nat hs.1
  rw[nats_ints] at hs
  have hM:=hs.1
  obtain ⟨a,rfl⟩:∃a:Nat,ag=a:=⟨ag.toNat,by omega⟩
  obtain ⟨x,rfl⟩:∃x:Nat,xf=x:=⟨xf.toNat,by omega⟩
  have hml:=ints_len m
  rw[hml] at hcap ⊢
  by_cases ho:pt<1∨now<pt∨(stpS m 0:Int)*cntS m 0≤now-pt∨alignS pt (stpS m 0)=0∨pn < -4611686018427387904∨4611686018427387904<pn
  ·
   exact keeps_out a x A c m now pt pn B cb ps later hM hs.2 hcap (by omega) (by omega) (by omega) (by omega) (by omega) hpt ho w hr
  ·
   exact keeps_any a x A c m now pt pn B cb ps later hM hs.2 hcap (by omega) (by omega) (by omega) (by omega) (by omega) hpt (by omega) (by omega) (by omega) (by omega) (by omega) (by omega) w hr hrb
section
open Go.ChangeShapes Go.WideShapes Go.ChangeAt Go.RowKit Go.Joins
open Go.Deep (open_slice_pairs)
theorem own_knob:ownKnob Try.prog.godebug=none:=by kernel_rfl
theorem laid_out:laidOutB Try.prog=true:=by kernel_rfl
theorem i64_hi {n:Int} (h:(Lit.int .i64 n).wf=true):n≤9223372036854775807:=by
 simp[Lit.wf,IntKind.min,IntKind.max,IntKind.signed,IntKind.bits] at h;omega

end
section
open Go.ChangeShapes Go.WideShapes Go.ChangeAt Go.RowKit Go.Joins
theorem cells_header:Try.prog.cellsOf 24=3:=by kernel_rfl
theorem cells_arch:Try.prog.cellsOf 30=2:=by kernel_rfl
def Rg (w:World) (A:Option Addr) (l:List (Int×Int)):Prop:=
 0<l.length→∃ad:Addr,A=some ad∧ad.block<w.heap.size∧∀k (h:k<l.length),w.cell? (ad.add (k*2))=some (.int .i64 l[k].1)∧w.cell? ⟨(ad.add (k*2)).block,(ad.add (k*2)).off+1,none⟩=some (.int .i64 l[k].2)
section
variable {H:Type} {enc:TypeId×Value→H} {w:World} {held:Bool}
theorem choose_pr {m:Nat} {P:Nat→Int×Int→Prop} (h:∀i,i<m→∃a,P i a):∃l:List (Int×Int),l.length=m∧∀i (hi:i<l.length),P i l[i]:=by
 induction m with
 | zero=>exact ⟨[],rfl,fun i hi=>absurd hi (by simp)⟩
 | succ m ih=>
  obtain ⟨l,hl,hp⟩:=ih (fun i hi=>h i (by omega))
  obtain ⟨a,ha⟩:=h m (by omega)
  refine ⟨l++[a],by simp[hl],fun i hi=>?_⟩
  by_cases hlt:i<l.length
  ·
   rw[List.getElem_append_left hlt];exact hp i hlt
  ·
   obtain rfl:i=m:=by simp at hi;omega
   simpa [hl] using ha
theorem pairs_cs {n:Nat} {t e:TypeId} {f0 f1:Field} {cs:List Value} {x:DataW H×List MemPlace} (ht:Try.prog.underlying t=some (.slice e)) (he:Try.prog.underlying e=some (.struct #[f0,f1])) (ce:Try.prog.cellsOf e=2) (o0:f0.offset=0) (o1:f1.offset=1) (t0:f0.type=3) (t1:f1.type=3)
  (hf:DataW.trod enc Try.prog w 0 (fun _=>true) held n t cs=some x):∃(A:Option Addr) (l:List (Int×Int)) (c:Nat),cs=[.slice A l.length c]∧l.length≤c∧c≤maxLen∧Rg w A l:=by
 rcases Go.Deep.open_slice_pairs ht he ce o0 o1 (by rw[t0];kernel_rfl) (by rw[t1];kernel_rfl) hf with ⟨hcs,_⟩|⟨a,len',cap',m,n,V0,V1,D0,D1,P0,P1,hcs,hb,hl,hm,hmm,hx,hi⟩
 ·
  exact ⟨none,[],0,hcs,Nat.zero_le _,Nat.zero_le _,fun h=>absurd h (Nat.lt_irrefl _)⟩
 ·
  simp at hmm
  subst hmm
  have each:∀i,i<len'→∃x:Int×Int,(w.cell? (a.add (i*2))=some (.int .i64 x.1)∧w.cell? (a.add (i*2+1))=some (.int .i64 x.2)):=by
   intro i hi'
   obtain ⟨h0,h1,k0,k1⟩:=hi i (by omega)
   rw[t0] at k0
   rw[t1] at k1
   obtain ⟨y,e0,_,_⟩:=DataW.trod_int Try.underlying3 k0
   obtain ⟨z,e1,_,_⟩:=DataW.trod_int Try.underlying3 k1
   simp at e0 e1
   rw[e0] at h0
   rw[e1] at h1
   exact ⟨(y,z),h0,h1⟩
  obtain ⟨l,hll,hp⟩:=choose_pr each
  refine ⟨some a,l,_,by rw[hll];exact hcs,by omega,hm,fun hn=>⟨a,rfl,?_,fun k hk=>⟨(hp k hk).1,?_⟩⟩⟩
  ·
   have h0:=(hp 0 hn).1
   rw[Nat.zero_mul] at h0
   exact World.block_lt_of_cell? w _ h0
  ·
   have:=(hp k hk).2
   rw[←this]
   exact (congrArg w.cell? (add_next a (k*2) 0)).symm
theorem open_header {r:Reach} {b0:Nat} {v:Value} {d:DataW H} {p:List MemPlace} (hv:Value.okWide Try.prog w r b0 24 v)
  (h:DataW.Trod enc Try.prog w 0 (fun _=>true) held 24 v d p):∃(ag xf:Int) (A:Option Addr) (l:List (Int×Int)) (c:Nat),v= .agg #[.int .i64 ag, .int .i64 xf, .slice A l.length c]∧l.length≤c∧c≤maxLen∧Rg w A l:=by
 obtain ⟨cs,rfl,_⟩:=okWide_struct Try.underlying24 hv
 obtain ⟨fuel,hf⟩:=h
 obtain ⟨xs,k,_,_,hl,hlen,hi⟩:=DataW.trod_struct Try.underlying24 hf
 rw[cells_header] at hl
 have e:∃v0 v1 v2,cs= #[v0,v1,v2]:=by
  obtain ⟨L⟩:=cs
  match L,hl with
  | [v0,v1,v2],_=>exact ⟨v0,v1,v2,rfl⟩
 obtain ⟨v0,v1,v2,rfl⟩:=e
 match xs,hlen with
 | [y0,y1,y2],_=>
  have g0:=hi 0 _ rfl
  have g1:=hi 1 _ rfl
  have g2:=hi 2 _ rfl
  have k3:Try.prog.cellsOf 3=1:=by kernel_rfl
  have k22:Try.prog.cellsOf 22=1:=by kernel_rfl
  simp[Value.cells,k3,k22] at g0 g1 g2
  obtain ⟨ag,e0,_,_⟩:=DataW.trod_int Try.underlying3 g0
  obtain ⟨xf,e1,_,_⟩:=DataW.trod_int Try.underlying3 g1
  obtain ⟨A,l,c,e2,hc,hm,hr⟩:=pairs_cs Try.underlying22 Try.underlying30 cells_arch rfl rfl rfl rfl g2
  simp at e0 e1 e2
  subst e0 e1 e2
  exact ⟨ag,xf,A,l,c,rfl,hc,hm,hr⟩
end
end
section
open Go.ChangeShapes Go.WideShapes Go.ChangeAt Go.RowKit Go.Joins
theorem cells_point:Try.prog.cellsOf 26=2:=by kernel_rfl
section
variable {H:Type} {enc:TypeId×Value→H} {w:World} {held:Bool}
theorem open_point {r:Reach} {b0:Nat} {v:Value} {d:DataW H} {p:List MemPlace} (hv:Value.okWide Try.prog w r b0 26 v)
  (h:DataW.Trod enc Try.prog w 0 (fun _=>true) held 26 v d p):∃(t n:Int),v= .agg #[.int .i64 t, .int .i64 n]∧(Lit.int .i64 t).wf=true:=by
 obtain ⟨cs,rfl,_⟩:=okWide_struct Try.underlying26 hv
 obtain ⟨fuel,hf⟩:=h
 obtain ⟨xs,k,_,_,hl,hlen,hi⟩:=DataW.trod_struct Try.underlying26 hf
 rw[cells_point] at hl
 have e:∃v0 v1,cs= #[v0,v1]:=by
  obtain ⟨L⟩:=cs
  match L,hl with
  | [v0,v1],_=>exact ⟨v0,v1,rfl⟩
 obtain ⟨v0,v1,rfl⟩:=e
 match xs,hlen with
 | [y0,y1],_=>
  have g0:=hi 0 _ rfl
  have g1:=hi 1 _ rfl
  have k3:Try.prog.cellsOf 3=1:=by kernel_rfl
  simp[Value.cells,k3] at g0 g1
  obtain ⟨t,e0,_,wt⟩:=DataW.trod_int Try.underlying3 g0
  obtain ⟨n,e1,_,_⟩:=DataW.trod_int Try.underlying3 g1
  simp at e0 e1
  subst e0 e1
  exact ⟨t,n,rfl,wt⟩
theorem open_points {r:Reach} {b0:Nat} {v:Value} {d:DataW H} {p:List MemPlace} (hv:Value.okWide Try.prog w r b0 27 v)
  (h:DataW.Trod enc Try.prog w 0 (fun _=>true) held 27 v d p):∃(A:Option Addr) (l:List (Int×Int)) (c:Nat),v= .slice A l.length c∧l.length≤c∧c≤maxLen∧Rg w A l:=by
 obtain ⟨a0,len,cap,rfl⟩:=okWide_slice Try.underlying27 hv
 obtain ⟨fuel,hf⟩:=h
 obtain ⟨A,l,c,e,h1,h2,h3⟩:=pairs_cs Try.underlying27 Try.underlying26 cells_point rfl rfl rfl rfl hf
 simp[Value.cells] at e
 obtain ⟨rfl,rfl,rfl⟩:=e
 exact ⟨_,l,_,rfl,h1,h2,h3⟩
end
end
end Go.Proofs.Ytoncapkmaeghfaa
