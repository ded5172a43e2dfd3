import Derived.Test.YtoncapkmaeghfaaGreatRunLtTor
import Derived.Test.YtoncapkmaeghfaaGreatRunLtRin
import Derived.Test.YtoncapkmaeghfaaGreatRunRwPas
import Derived.Test.YtoncapkmaeghfaaGreatRunFxBase
import Derived.Deep.Light
import Derived.Test.YtoncapkmaeghfaaGreatRows
import Derived.ProofKit
import Derived.Lib.SmallJoins
import Derived.Deep.SlicePairs
import Derived.Carry
import Derived.ShutString
import Derived.Deep.Slices
set_option linter.all false
set_option maxRecDepth 1000000
set_option maxHeartbeats 12800000
namespace Go.Proofs.YtoncapkmaeghfaaGreat
section
open Go.RowKit Go.ChangeMaps Go.Maps
structure LtC (hb pb:Nat) (ag xf pt pn:Int) (A:Option Addr) (n c:Nat) (W:World):Prop where
 zh:hb<W.heap.size
 zp:pb<W.heap.size
 h0:W.cell? ⟨hb,0,none⟩=some (.int .i64 ag)
 h1:W.cell? ⟨hb,1,none⟩=some (.int .i64 xf)
 h2:W.cell? ⟨hb,2,none⟩=some (.slice A n c)
 p0:W.cell? ⟨pb,0,none⟩=some (.int .i64 pt)
 p1:W.cell? ⟨pb,1,none⟩=some (.int .i64 pn)
theorem LtC.gr {hb pb:Nat} {ag xf pt pn:Int} {A:Option Addr} {n c:Nat} {W W':World} (h:LtC hb pb ag xf pt pn A n c W) (g:Gr W W'):LtC hb pb ag xf pt pn A n c W':=
 ⟨Nat.lt_of_lt_of_le h.zh g.size,Nat.lt_of_lt_of_le h.zp g.size,(Below.cell g (p:=⟨hb,0,none⟩) h.zh).trans h.h0,(Below.cell g (p:=⟨hb,1,none⟩) h.zh).trans h.h1,(Below.cell g (p:=⟨hb,2,none⟩) h.zh).trans h.h2,(Below.cell g (p:=⟨pb,0,none⟩) h.zp).trans h.p0,(Below.cell g (p:=⟨pb,1,none⟩) h.zp).trans h.p1⟩
theorem decT_le {s:List UInt8} (h:s.length=12):decT s≤4294967295:=by
 have l4:(s.take 4).length=4:=by rw[List.length_take,h];rfl
 have b4:=ofB_lt (s.take 4)
 rw[l4] at b4
 unfold decT
 omega
theorem Kp.overT {S:Nat→Prop} {wc W W1:World} (hk:Kp S W W1) (g:Gr wc W) (hs:∀k,S k→wc.heap.size≤k):Gr wc W1:=by
 refine Kp.gr (S:=S) ((Kp.of_gr S g).trans hk (fun _ _ e=>e)) (fun k hk e=>?_)
 have:=hs k e
 omega
theorem PnM.kpX {w w':World} {F P M Ms X:Nat} {D0:List UInt8} {z:Int} (h:PnM w F P M none Ms D0 []) (h0:0<D0.length) (hX:w.cell? ⟨X,0,none⟩=some (.int .i64 z)) (lP:P<w.heap.size) (k:Kp (Xch X none) w w') (hPX:P≠X):PnM w' F P M none Ms D0 []:=by
 have hn:∀q,q≠X→¬Xch X none q:=fun q h1 e=>by
  rcases e with e|e
  ·
   exact h1 e
  ·
   cases e
 obtain ⟨v,v1,v2,v3⟩:=h.p0
 have hMs:Ms≠X:=fun e=>by
  subst e
  obtain ⟨clk,born,A,c,hb, -⟩:=h.ms
  rw[World.cell?,hb] at hX
  cases hX
 refine ⟨⟨v,(k.cell (a:=⟨P,0,none⟩) lP (hn P hPX)).trans v1,v2,k.own v3 (fun i hi=>by rw[v2] at hi;cases hi)⟩,(k.cell (a:=⟨P,1,none⟩) lP (hn P hPX)).trans h.p1,⟨Nat.lt_of_lt_of_le h.ls.1 k.size,h.ls.2⟩,?_,fun c hc=>by cases hc⟩
 obtain ⟨clk,born,A,c,hb,hc,hr,hq⟩:=h.ms
 obtain ⟨g,rfl,hg,hx⟩:=hq.pos h0
 have hgX:g≠X:=fun e=>by
  subst e
  obtain ⟨ad,e2, -,hcc⟩:=hr.at h0
  injection e2 with e2
  subst e2
  have:(⟨g,0,none⟩:Addr).add 0=⟨g,0,none⟩:=rfl
  rw[this,hX] at hcc
  injection hcc with hcc
  injection hcc with hk2 _
  cases hk2
 exact ⟨clk,born,_,c,(k.block Ms h.ls.1 (hn Ms hMs)).trans hb,hc,k.rd hr (fun _ ad e=>by injection e with e;rw[←e];exact hn g hgX), .inr ⟨g,rfl,Nat.lt_of_lt_of_le hg k.size,hx⟩⟩
theorem law_WhisperTorn (ag xf:Int) (A:Option Addr) (c:Nat) (l:List (Int×Int)) (now:Int) (B:Option Addr) (cb:Nat) (ps:List (Int×Int)) (pt pn nn mm:Int) (w:World) (hr:Ri w A l) (hcap:l.length≤c) (hrb:Ri w B ps) :
  Calls Tryz.prog 5 #[.agg #[.int .i64 ag, .int .i64 xf, .slice A l.length c], .int .i64 now, .slice B ps.length cb, .agg #[.int .i64 pt, .int .i64 pn], .int .i64 nn, .int .i64 mm] w fun e w'=>e= .returned (.bool true)∧Gr w w':=by
 obtain ⟨V,hV⟩:∃V,V=(w.alloc (.cells #[.int .i64 ag, .int .i64 xf, .slice A l.length c] 24)).alloc (.cells #[.int .i64 pt, .int .i64 pn] 54):=⟨_,rfl⟩
 have gV:Gr w V:=by rw[hV];exact Gr.alloc (Gr.alloc (Gr.refl w) _) _
 have hz:w.heap.size+1<V.heap.size:=by rw[hV];simp
 have hz0:w.heap.size<V.heap.size:=by omega
 have c0:V.cell? ⟨w.heap.size,0,none⟩=some (.int .i64 ag):=by rw[hV];go_simp
 have c1:V.cell? ⟨w.heap.size,1,none⟩=some (.int .i64 xf):=by rw[hV];go_simp
 have c2:V.cell? ⟨w.heap.size,2,none⟩=some (.slice A l.length c):=by rw[hV];go_simp
 have b0:V.cell? ⟨w.heap.size+1,0,none⟩=some (.int .i64 pt):=by rw[hV];go_simp
 have b1:V.cell? ⟨w.heap.size+1,1,none⟩=some (.int .i64 pn):=by rw[hV];go_simp
 have HV:=Lib.hid hV
 have HGV:=Lib.hid gV
 have HRV:=Lib.hid (hr.gr gV)
 have HRB:=Lib.hid hrb
 have hsm:=fun W (hW:Ri W A l)=>small_any ag xf A c l W hW
 clear hV gV hr hrb
 go_enter Tryz.func5,Tryz.ntmps5
 go_upto_region 1 with (fail)
 rw[←HV.out]
 clear HV
 go_cut [61] from 30 to 62 (fun p wx=>∃b,p= .bool b∧Gr V wx∧(b=false→smallB ag xf l=true∧1≤now∧now≤4294967295∧ps.length≤20∧0≤nn∧0≤mm∧nn≤100∧mm≤12))
 case first=>
  cases hS:smallB ag xf l with
  | false=>
   rw[hS] at hsm
   have HSM:=Lib.hid hsm
   clear hsm hS
   go_wp2_with (go_at_call 7;refine (HSM.out _ HRV.out).mono ?_;rintro e w1 ⟨rfl,g1⟩;have HG1:=Lib.hid g1;clear g1)
   go_meet
   exact ⟨true,rfl,HG1.out,fun e=>by cases e⟩
  | true=>
   rw[hS] at hsm
   have HSM:=Lib.hid hsm
   have HSS:=Lib.hid hS
   clear hsm hS
   by_cases q1:now<1
   ·
    have dq1:decide (now<1)=true:=decide_eq_true q1
    go_wp2_with (go_at_call 7;refine (HSM.out _ HRV.out).mono ?_;rintro e w1 ⟨rfl,g1⟩;have HG1:=Lib.hid g1;clear g1)
    go_meet
    exact ⟨true,by simp,HG1.out,fun e=>by cases e⟩
   have dq1:decide (now<1)=false:=decide_eq_false q1
   by_cases q2:4294967295<now
   ·
    have dq2:decide (4294967295<now)=true:=decide_eq_true q2
    go_wp2_with (go_at_call 7;refine (HSM.out _ HRV.out).mono ?_;rintro e w1 ⟨rfl,g1⟩;have HG1:=Lib.hid g1;clear g1)
    go_meet
    exact ⟨true,by simp,HG1.out,fun e=>by cases e⟩
   have dq2:decide (4294967295<now)=false:=decide_eq_false q2
   by_cases q3:(20:Int)<(ps.length:Int)
   ·
    have dq3:decide ((20:Int)<(ps.length:Int))=true:=decide_eq_true q3
    go_wp2_with (go_at_call 7;refine (HSM.out _ HRV.out).mono ?_;rintro e w1 ⟨rfl,g1⟩;have HG1:=Lib.hid g1;clear g1)
    go_meet
    exact ⟨true,by simp,HG1.out,fun e=>by cases e⟩
   have dq3:decide ((20:Int)<(ps.length:Int))=false:=decide_eq_false q3
   by_cases q4:nn<0
   ·
    have dq4:decide (nn<0)=true:=decide_eq_true q4
    go_wp2_with (go_at_call 7;refine (HSM.out _ HRV.out).mono ?_;rintro e w1 ⟨rfl,g1⟩;have HG1:=Lib.hid g1;clear g1)
    go_meet
    exact ⟨true,by simp,HG1.out,fun e=>by cases e⟩
   have dq4:decide (nn<0)=false:=decide_eq_false q4
   by_cases q5:mm<0
   ·
    have dq5:decide (mm<0)=true:=decide_eq_true q5
    go_wp2_with (go_at_call 7;refine (HSM.out _ HRV.out).mono ?_;rintro e w1 ⟨rfl,g1⟩;have HG1:=Lib.hid g1;clear g1)
    go_meet
    exact ⟨true,by simp,HG1.out,fun e=>by cases e⟩
   have dq5:decide (mm<0)=false:=decide_eq_false q5
   by_cases q6:100<nn
   ·
    have dq6:decide (100<nn)=true:=decide_eq_true q6
    go_wp2_with (go_at_call 7;refine (HSM.out _ HRV.out).mono ?_;rintro e w1 ⟨rfl,g1⟩;have HG1:=Lib.hid g1;clear g1)
    go_meet
    exact ⟨true,by simp,HG1.out,fun e=>by cases e⟩
   have dq6:decide (100<nn)=false:=decide_eq_false q6
   by_cases q7:12<mm
   ·
    have dq7:decide (12<mm)=true:=decide_eq_true q7
    go_wp2_with (go_at_call 7;refine (HSM.out _ HRV.out).mono ?_;rintro e w1 ⟨rfl,g1⟩;have HG1:=Lib.hid g1;clear g1)
    go_meet
    exact ⟨true,by simp,HG1.out,fun e=>by cases e⟩
   have dq7:decide (12<mm)=false:=decide_eq_false q7
   go_wp2_with (go_at_call 7;refine (HSM.out _ HRV.out).mono ?_;rintro e w1 ⟨rfl,g1⟩;have HG1:=Lib.hid g1;clear g1)
   go_meet
   exact ⟨false,by first|rfl|simp[q1,q2,q3,q4,q5,q6,q7],HG1.out,fun _=>⟨HSS.out,by omega,by omega,by omega,by omega,by omega,by omega,by omega⟩⟩
 case rest=>
  obtain ⟨b,rfl,gc,hfac⟩:=hcut
  cases b with
  | true=>
   have HG:=Lib.hid (HGV.out.trans gc)
   clear gc hfac
   go_wp2
   go_ret
   exact ⟨rfl,HG.out⟩
  | false=>
   have HFAC:=Lib.hid (hfac rfl)
   have HG:=Lib.hid (HGV.out.trans gc)
   have HRC:=Lib.hid (HRV.out.gr gc)
   have HRBC:=Lib.hid (HRB.out.gr HG.out)
   obtain ⟨hb,hhb⟩:∃hb,hb=w.heap.size:=⟨_,rfl⟩
   obtain ⟨pb,hpb⟩:∃pb,pb=w.heap.size+1:=⟨_,rfl⟩
   rw[←hpb] at b0 b1 hz ⊢
   rw[←hhb] at c0 c1 c2 hz0 ⊢
   have h0:=(Below.cell gc (p:=⟨hb,0,none⟩) hz0).trans c0
   have h1:=(Below.cell gc (p:=⟨hb,1,none⟩) hz0).trans c1
   have h2:=(Below.cell gc (p:=⟨hb,2,none⟩) hz0).trans c2
   have p0:=(Below.cell gc (p:=⟨pb,0,none⟩) hz).trans b0
   have p1:=(Below.cell gc (p:=⟨pb,1,none⟩) hz).trans b1
   have HC:=Lib.hid (show LtC hb pb ag xf pt pn A l.length c wc from ⟨Nat.lt_of_lt_of_le hz0 gc.size,Nat.lt_of_lt_of_le hz gc.size,h0,h1,h2,p0,p1⟩)
   have hs:=HFAC.out.1
   unfold smallB at hs
   rw[Bool.and_eq_true,Nat.ble_eq] at hs
   clear hfac gc b0 b1 c0 c1 c2 hz hz0 h0 h1 h2 p0 p1 hsm HRV HRB HGV hhb hpb
   obtain ⟨a9,x9,m,rfl,rfl,rfl⟩:=mayH_arc hs.1
   have HM:=Lib.hid (show mayH a9 x9 (ints m)=true from hs.1)
   have HSZ:=Lib.hid (show sizeS m≤3000 by have:=hs.2;rw[nats_ints] at this;exact this)
   rw[ints_len] at HC hcap ⊢
   have HCAP:=Lib.hid hcap
   have HF:=Lib.hid (MayF.ofH HM.out)
   have HNM:Hid ((⟨#[97]⟩:ByteArray)=nmA):=Lib.hid (by kernel_rfl)
   clear hs hcap
   obtain ⟨n1,n2,n3,n4,n5,n6,n7⟩:=HFAC.out.2

   have hC:=HC.out
   obtain ⟨zh,zp,h0,h1,h2,p0,p1⟩:=hC
   go_upto_region 4 with (go_at_call 10;refine (xnew_any 65536 (by omega) (by omega) _).mono ?_;rintro e w3 ⟨rfl,h3⟩;have H3:=Lib.hid h3;clear h3)
   obtain ⟨X,hX⟩:∃X,X=wc.heap.size:=⟨_,rfl⟩
   rw[←hX]
   have g3:Gr wc w3:=by rw[H3.out];exact Gr.alloc (Gr.refl wc) _
   have hx3:RsM (fun _=>False) w3 X none 65536 0 none:=by rw[H3.out,hX];exact RsM.new _ 65536 wc (fun k e=>e.elim)
   have HX:=Lib.hid hX
   have HG3:=Lib.hid g3
   have HC3:=Lib.hid (HC.out.gr g3)
   have hxc:=xcrt_any a9 x9 A c m HM.out (by omega) (by have:=HSZ.out;omega) (by omega) w3 hx3 (HRC.out.gr g3)
   rw[←HNM.out] at hxc
   change Calls _ _ _ _ (fun e w'=>e= .returned (.int .i64 0)∧RsM (fun _=>False) w' X none 65536 0 (some (newS a9 x9 m))∧Kp (Xch X none) w3 w') at hxc
   have HXC:=Lib.hid hxc
   have HXS:Hid (∀k,Xch X none k→wc.heap.size≤k):=Lib.hid (fun k e=>by
    rcases e with e|e
    ·
     rw[e,HX.out];exact Nat.le_refl _
    ·
     cases e)
   clear hX g3 hx3 hxc H3 zh zp h0 h1 h2 p0 p1
   obtain ⟨zh,zp,h0,h1,h2,p0,p1⟩:=HC3.out
   go_upto_region 5 with (go_at_call 12;refine HXC.out.mono ?_;rintro e w4 ⟨rfl,hx4,hk4⟩;have H4:=Lib.hid (And.intro hx4 (hk4.overT HG3.out HXS.out));clear hx4 hk4)
   clear zh zp h0 h1 h2 p0 p1

   have hN:=newS_ok a9 x9 m
   have hI0:=InvS.new (m:=m) a9 x9 now
   have hop0:=opS_hdr HM.out hN
   have hxu:=xupdate_any (by rw[hN.1];have:=HSZ.out;omega) hop0 now n1 n2 B cb ps (by omega) (by omega) w4 H4.out.1 (HRBC.out.gr H4.out.2) (fun h0 ad e k=>by
    obtain ⟨ad2,e2,hb2, -⟩:=HRBC.out h0
    rw[e] at e2
    injection e2 with e2
    subst e2
    have:=HXS.out _ k
    omega)
   rw[←HNM.out] at hxu
   obtain ⟨D1,hD1⟩:∃D1,D1=(updS (a9:Int) (x9:Int) m now ps (0,newS a9 x9 m)).2:=⟨_,rfl⟩
   obtain ⟨u1,hu1⟩:∃u1,u1=(updS (a9:Int) (x9:Int) m now ps (0,newS a9 x9 m)).1:=⟨_,rfl⟩
   rw[←hD1,←hu1] at hxu
   have HXU:=Lib.hid hxu
   have HD1:=Lib.hid (show HdOk a9 x9 m D1∧InvS m now D1 from ⟨by rw[hD1];exact HdOk.upd HF.out ps _ hN,by rw[hD1];exact InvS.upd HF.out n2 ps _ hI0⟩)
   have HDE:=Lib.hid (And.intro hD1 hu1)
   clear hxu hN hI0 hop0 hD1 hu1
   go_upto_region 6 with (go_at_call 21;refine HXU.out.mono ?_;rintro e w5 ⟨rfl,hx5,hk5⟩;have H5:=Lib.hid (And.intro hx5 (hk5.overT H4.out.2 HXS.out));clear hx5 hk5)
   have hl1:(D1.length:Int)≤3000:=by rw[HD1.out.1.1];have:=HSZ.out;omega
   have HWS:=Lib.hid (rings_any a9 x9 A c m D1 HM.out HD1.out.1 (by omega) w5 H5.out.1)
   obtain ⟨zh,zp,h0,h1,h2,p0,p1⟩:=HC.out.gr H5.out.2
   go_upto_region 7 with (go_at_call 22;refine HWS.out.mono ?_;rintro e w6 ⟨g6,Aw,cw,Lw,rfl,hw6⟩;have H6:=Lib.hid (And.intro (H5.out.2.trans g6) (And.intro hw6 (H5.out.1.gr g6)));clear g6 hw6)
   clear zh zp h0 h1 h2 p0 p1

   go_upto_region 8 with (go_at_call 9;refine (vnew_row 65536 (by omega) (by omega) _).mono ?_;rintro e w7 ⟨rfl,hf7,g7,zf7⟩;have H7:=Lib.hid (And.intro hf7 (And.intro g7 zf7));clear hf7 g7 zf7)
   obtain ⟨F,hF⟩:∃F,F=w6.heap.size+3:=⟨_,rfl⟩
   obtain ⟨P,hP⟩:∃P,P=w6.heap.size+1:=⟨_,rfl⟩
   obtain ⟨M,hM2⟩:∃M,M=w6.heap.size+2:=⟨_,rfl⟩
   rw[←hF,←hP,←hM2] at H7
   rw[←hF]
   have HPM:=Lib.hid (show w6.heap.size≤P∧w6.heap.size≤M∧w6.heap.size≤F by omega)
   have HT6:Hid (∀k,Tch P M none k→w6.heap.size≤k):=Lib.hid (fun k e=>by
    rcases e with e|e|e
    ·
     rw[e];exact HPM.out.1
    ·
     rw[e];exact HPM.out.2.1
    ·
     cases e)
   have hcr:=wcreate_any a9 x9 A c m HM.out HCAP.out (by omega) (by have:=HSZ.out;omega) (by omega) w7 H7.out.1 (HRC.out.gr (H6.out.1.trans H7.out.2.1))
   rw[←HNM.out] at hcr
   change Calls _ _ _ _ (fun e w'=>e= .returned (.int .i64 0)∧FsM (fun _=>False) w' F P M none 65536 0 (some (newS a9 x9 m))∧Kp (Tch P M none) w7 w') at hcr
   have HCR:=Lib.hid hcr
   clear hF hP hM2 hcr
   obtain ⟨zh,zp,h0,h1,h2,p0,p1⟩:=HC.out.gr (H6.out.1.trans H7.out.2.1)
   go_upto_region 10 with (go_at_call 11;refine HCR.out.mono ?_;rintro e w8 ⟨rfl,hf8,hk8⟩;have H8:=Lib.hid (And.intro hf8 (And.intro hk8 (hk8.overT H7.out.2.1 HT6.out)));clear hf8 hk8)
   clear zh zp h0 h1 h2 p0 p1
   have hN:=newS_ok a9 x9 m
   have hup:=wupdate_row (by rw[hN.1];have:=HSZ.out;omega) (opS_hdr HM.out hN) now n1 n2 B cb ps (by omega) (by omega) w8 H8.out.1 (HRBC.out.gr (H6.out.1.trans H8.out.2.2)) (fun h0 ad e k=>by
    obtain ⟨ad2,e2,hb2, -⟩:=HRBC.out h0
    rw[e] at e2
    injection e2 with e2
    subst e2
    have h5:=HT6.out _ k
    have h6:=H6.out.1.size
    omega)
   rw[←HNM.out,←HDE.out.1,←HDE.out.2] at hup
   have HUP:=Lib.hid hup
   clear hup hN
   go_upto_region 11 with (go_at_call 23;refine HUP.out.mono ?_;rintro e w9 ⟨rfl,hf9,hk9,Ms,hp9⟩;have H9:=Lib.hid (And.intro hf9 (And.intro hp9 (And.intro hk9 (hk9.overT H8.out.2.2 HT6.out))));clear hf9 hp9 hk9)
   have hzf9:w9.frozen? ⟨F,2,none⟩=false:=by
    have hnT:¬Tch P M none F:=fun e=>by
     rcases e with e|e|e
     ·
      exact H7.out.1.nfp e
     ·
      exact H7.out.1.nfm e
     ·
      cases e
    exact ((H9.out.2.2.1.frozen (a:=⟨F,2,none⟩) H8.out.1.lf hnT).trans (H8.out.2.1.frozen (a:=⟨F,2,none⟩) H7.out.1.lf hnT)).trans H7.out.2.2
   have hx9:=H6.out.2.2.gr H9.out.2.2.2
   have HSI:=Lib.hid (xsize_some w9 hx9)
   have hrd:=xread_all (l:=D1) (by omega) w9 hx9
   have HXR:=Lib.hid hrd
   rw[←HNM.out] at HSI HXR
   have HX9:=Lib.hid hx9
   have HZ9:=Lib.hid hzf9
   have hl1p:0<D1.length:=by rw[HD1.out.1.1];have:=sizeS_eq m;omega
   have HL1:=Lib.hid hl1p
   clear hrd hx9 hzf9 hl1p
   go_upto_region 13 with (first|(go_at_call 24;refine HSI.out.mono ?_;rintro e w99 ⟨rfl,rfl⟩)|(go_at_call 25;refine HXR.out.mono ?_;rintro e w10 ⟨Ao,co,rfl,hco,hoo,g10⟩;have H10:=Lib.hid (And.intro g10 (And.intro hco hoo));clear g10 hco hoo))
   obtain ⟨ao,rfl⟩:=Rb.some (Rb.own H10.out.2.2) HL1.out

   have hC10:=HC.out.gr ((H6.out.1.trans H9.out.2.2.2).trans H10.out.1)
   obtain ⟨V10,hV10⟩:∃V10,V10=w10.alloc (.cells #[.int .i64 pt, .int .i64 pn] 54):=⟨_,rfl⟩
   have gV10:Gr w10 V10:=by rw[hV10];exact Gr.alloc (Gr.refl w10) _
   have hx10:=(HX9.out.gr H10.out.1).gr gV10
   have hxu:=xupdate_any (by omega) (opS_hdr HM.out HD1.out.1) now n1 n2 (some ⟨w10.heap.size,0,none⟩) 1 [(pt,pn)] (by simp) (by omega) V10 hx10 (by rw[hV10];exact Ri.lit1 w10 pt pn _) (fun _ ad e k=>by
    injection e with e
    subst e
    rcases k with k|k
    ·
     have h1:=HX.out
     have h2:=((H6.out.1.trans H9.out.2.2.2).trans H10.out.1).size
     have h3:=HC.out.zh
     have h4:=(HX9.out.gr H10.out.1).lX
     simp only at k
     omega
    ·
     cases k)
   rw[←HNM.out] at hxu
   obtain ⟨D2,hD2⟩:∃D2,D2=(updS (a9:Int) (x9:Int) m now [(pt,pn)] (0,D1)).2:=⟨_,rfl⟩
   obtain ⟨u2,hu2⟩:∃u2,u2=(updS (a9:Int) (x9:Int) m now [(pt,pn)] (0,D1)).1:=⟨_,rfl⟩
   rw[←hD2,←hu2] at hxu
   have HXU2:=Lib.hid hxu
   have HD2:=Lib.hid (show HdOk a9 x9 m D2∧InvS m now D2 from ⟨by rw[hD2];exact HdOk.upd HF.out _ _ HD1.out.1,by rw[hD2];exact InvS.upd HF.out n2 _ _ HD1.out.2⟩)
   have HV10:=Lib.hid hV10
   have HG10:=Lib.hid gV10
   clear hxu hD2 hu2 hV10 gV10 hx10
   obtain ⟨zh,zp,h0,h1,h2,p0,p1⟩:=hC10
   go_upto_region 14 with (go_at_call 21;rw[←HV10.out];refine HXU2.out.mono ?_;rintro e w11 ⟨rfl,hx11,hk11⟩;have H11:=Lib.hid (And.intro hx11 hk11);clear hx11 hk11)
   clear zh zp h0 h1 h2 p0 p1
   have g9V:=H10.out.1.trans HG10.out
   have hG11:Gr wc w11:=H11.out.2.overT ((H6.out.1.trans H9.out.2.2.2).trans g9V) HXS.out
   have hXF:X<w6.heap.size:=H6.out.2.2.lX
   have hf11:FsM (fun k=>k=X) w11 F P M none 65536 0 (some D1):=by
    have hy:=(H9.out.1.gr g9V).withY2 (Y':=fun k=>k=X) HL1.out (fun k e=>by rw[e];exact Nat.lt_of_lt_of_le hXF (Nat.le_trans H9.out.2.2.2.size g9V.size)) (fun k e=>by rw[e];exact ⟨_,((HX9.out.gr H10.out.1).gr HG10.out).x0⟩)
    refine hy.kp H11.out.2 (fun e=>?_) (fun e=>?_) (fun e=>?_) (fun i e=>by cases e) (fun g _ e=>?_)
    ·
     rcases e with e|e
     ·
      have:=HPM.out.2.2;omega
     ·
      cases e
    ·
     rcases e with e|e
     ·
      have:=HPM.out.1;omega
     ·
      cases e
    ·
     rcases e with e|e
     ·
      have:=HPM.out.2.1;omega
     ·
      cases e
    ·
     rcases e with e|e
     ·
      exact .inr (.inr (.inr (.inr (.inr (.inr e)))))
     ·
      cases e
   have hp11:PnM w11 F P M none Ms D1 []:=(H9.out.2.1.gr g9V H9.out.1.lp).kpX HL1.out ((HX9.out.gr H10.out.1).gr HG10.out).x0 (Nat.lt_of_lt_of_le H9.out.1.lp g9V.size) H11.out.2 (fun e=>by have:=HPM.out.1;omega)
   have hzf11:w11.frozen? ⟨F,2,none⟩=false:=((H11.out.2.frozen (a:=⟨F,2,none⟩) (Nat.lt_of_lt_of_le H9.out.1.lf g9V.size) (fun e=>by
    rcases e with e|e
    ·
     have:=HPM.out.2.2;simp only at e;omega
    ·
     cases e)).trans (Below.frozen g9V (p:=⟨F,2,none⟩) H9.out.1.lf)).trans HZ9.out
   have hao:=H10.out.2.2.lt ao.block (own_blkR H10.out.2.2)
   have ho11:Rb w11 (some ao) D1:=H11.out.2.rd ((Rb.own H10.out.2.2).gr HG10.out) (fun _ ad e=>by
    injection e with e
    subst e
    intro e
    rcases e with e|e
    ·
     have:=HX9.out.lX;omega
    ·
     cases e)
   have hw11:=((H6.out.2.1.gr H9.out.2.2.2).gr g9V).kp H11.out.2 (fun q h1 h2 e=>by
    rcases e with e|e
    ·
     have:=H5.out.1.lX;omega
    ·
     cases e)
   have H11F:=Lib.hid (And.intro hf11 (And.intro hp11 (And.intro hzf11 (And.intro ho11 (And.intro hw11 (And.intro hG11 (And.intro hao hXF)))))))
   have hl2:(D2.length:Int)≤3000:=by rw[HD2.out.1.1];have:=HSZ.out;omega
   have HIS:=Lib.hid (rings_any a9 x9 A c m D2 HM.out HD2.out.1 (by omega) w11 H11.out.1)
   clear g9V hG11 hXF hf11 hp11 hzf11 hao ho11 hw11
   obtain ⟨zh,zp,h0,h1,h2,p0,p1⟩:=HC.out.gr H11F.out.2.2.2.2.2.1
   go_upto_region 15 with (go_at_call 22;refine HIS.out.mono ?_;rintro e w12 ⟨g12,Ai,ci,Li,rfl,hi12⟩;have H12:=Lib.hid (And.intro g12 hi12);clear g12 hi12)
   clear zh zp h0 h1 h2 p0 p1

   obtain ⟨Q,hQ⟩:∃Q,Q=(m.map fun a=>a.2).sum:=⟨_,rfl⟩
   have hsq:=sizeS_eq m
   rw[←hQ] at hsq
   have hto:=torn_any a9 x9 A c m HM.out nn mm n4 n5 n7 D1 D2 Q (by rw[HD1.out.1.1];exact hsq) (by rw[HD1.out.1.1,HD2.out.1.1]) (by omega) ao co w12 (H11F.out.1.gr H12.out.1) (H11F.out.2.1.gr H12.out.1 H11F.out.1.lp) ((Below.frozen H12.out.1 (p:=⟨F,2,none⟩) H11F.out.1.lf).trans H11F.out.2.2.1) (H11.out.1.gr H12.out.1) (H11F.out.2.2.2.1.gr H12.out.1) ⟨fun e=>by have h1:=H11F.out.2.2.2.2.2.2.1.1;have h2:=H9.out.1.lp;omega,fun e=>by have h1:=H11F.out.2.2.2.2.2.2.1.1;have h2:=H9.out.1.lm;omega,by have h1:=H11F.out.2.2.2.2.2.2.1.2;have h2:=HG10.out.size;have h3:=H11.out.2.size;have h4:=H12.out.1.size;omega⟩ H10.out.2.1 (HRC.out.gr (H11F.out.2.2.2.2.2.1.trans H12.out.1))
   have HTO:=Lib.hid hto
   have HQ:=Lib.hid (And.intro hQ hsq)
   obtain ⟨zh,zp,h0,h1,h2,p0,p1⟩:=HC.out.gr (H11F.out.2.2.2.2.2.1.trans H12.out.1)
   clear hto hQ hsq
   go_upto_region 18 with (go_at_call 26;refine HTO.out.mono ?_;rintro e w13 ⟨rfl,M3,hM3,hf13,hk13⟩;have H13:=Lib.hid (And.intro hM3 (And.intro hf13 hk13));clear hM3 hf13 hk13)
   clear zh zp h0 h1 h2 p0 p1
   have hG13:Gr wc w13:=H13.out.2.2.overT (H11F.out.2.2.2.2.2.1.trans H12.out.1) (fun k e=>by
    have h6:=H6.out.1.size
    rcases e with e|e|e
    ·
     have:=HPM.out.2.2;omega
    ·
     have:=HPM.out.1;omega
    ·
     have:=HPM.out.2.1;omega)
   have hwas:=(H11F.out.2.2.2.2.1.gr H12.out.1).kp H13.out.2.2 (fun q q1 q2 e=>by
    rcases e with e|e|e
    ·
     have:=HPM.out.2.2;omega
    ·
     have:=HPM.out.1;omega
    ·
     have:=HPM.out.2.1;omega)
   have his:=H12.out.2.kp H13.out.2.2 (fun q q1 q2 e=>by
    have h1:=H11F.out.1.lf
    have h2:=H11F.out.1.lp
    have h3:=H11F.out.1.lm
    rcases e with e|e|e<;>omega)
   obtain ⟨D,hD⟩:∃D,D=crashL (slotsW D1 D2 (16+12*m.length) Q) nn.toNat mm.toNat D1:=⟨_,rfl⟩
   have hok:=crash_ok (D1:=D1) (D2:=D2) (b:=16+12*m.length) (Q:=Q) (by rw[HD1.out.1.1,HD2.out.1.1]) (by rw[HD1.out.1.1,HQ.out.2];exact Nat.le_refl _) Q 0 nn.toNat mm.toNat D1 (Nat.zero_add _) ⟨rfl,rfl,fun q hq=>absurd hq (by omega),fun q _ _=>rfl⟩
   rw[show 16+12*m.length+12*0=16+12*m.length by omega,←hD] at hok
   have hf13:=H13.out.2.1
   rw[←hD] at hf13
   have hhd:=HD1.out.1.torn hok.len hok.hd
   have hDl:(D.length:Int)≤3000:=by rw[hhd.1];have:=HSZ.out;omega
   have HDD:=Lib.hid (And.intro hok hhd)
   have HR13:=Lib.hid (And.intro hG13 (And.intro hwas (And.intro his hf13)))
   have hin:=winfo_any D (by omega) w13 hf13
   unfold RetIw at hin
   rw[opS_hdr HM.out hhd,←HNM.out] at hin
   simp only at hin
   have HIN:=Lib.hid hin
   clear hG13 hwas his hD hok hf13 hhd hin
   obtain ⟨zh,zp,h0,h1,h2,p0,p1⟩:=HC.out.gr HR13.out.1
   go_upto_region 19 with (go_at_call 15;refine HIN.out.mono ?_;rintro e w14 ⟨g14,A14,c14,rfl,hc14,hr14⟩;have H14:=Lib.hid (And.intro g14 (And.intro hc14 hr14));clear g14 hc14 hr14)
   clear zh zp h0 h1 h2 p0 p1
   obtain ⟨V14,hV14⟩:∃V14,V14=w14.alloc (.cells #[.int .i64 a9, .int .i64 x9, .slice A14 m.length c14] 24):=⟨_,rfl⟩
   have gV14:Gr w14 V14:=by rw[hV14];exact Gr.alloc (Gr.refl w14) _
   have m0:V14.cell? ⟨w14.heap.size,0,none⟩=some (.int .i64 a9):=by rw[hV14];go_simp
   have m1:V14.cell? ⟨w14.heap.size,1,none⟩=some (.int .i64 x9):=by rw[hV14];go_simp
   have m2:V14.cell? ⟨w14.heap.size,2,none⟩=some (.slice A14 m.length c14):=by rw[hV14];go_simp
   have HG14:=Lib.hid (H14.out.1.trans gV14)
   have hhs:=headers_same a9 x9 A14 A c14 c (ints m) (by rw[ints_len];have:=HF.out.l8;omega) V14 (H14.out.2.2.gr gV14) (HRC.out.gr (HR13.out.1.trans HG14.out))
   rw[ints_len] at hhs
   have HHS:=Lib.hid hhs
   obtain ⟨zh,zp,h0,h1,h2,p0,p1⟩:=HC.out.gr (HR13.out.1.trans HG14.out)
   rw[←hV14]
   clear hV14 gV14 hhs
   go_upto_region 21 with (go_at_call 17;refine HHS.out.mono ?_;rintro e w15 ⟨rfl,g15⟩;have H15:=Lib.hid (HG14.out.trans g15);clear g15)
   clear zh zp h0 h1 h2 p0 p1 m0 m1 m2
   have hm8:(m.length:Int)≤8:=by have:=HF.out.l8;omega
   go_wp2
   go_loopw [26] (fun i wr=>∃q:Nat,q≤m.length∧i= .int .i64 q∧Gr w13 wr) (fun i _=>m.length-(intOf i).toNat)
   case atStart=>exact ⟨0,Nat.zero_le _,rfl,H15.out⟩
   case round=>
    obtain ⟨q,hq,rfl,hgr⟩:=hrel
    have HGR:=Lib.hid hgr
    obtain ⟨zh,zp,h0,h1,h2,p0,p1⟩:=HC.out.gr (HR13.out.1.trans hgr)
    by_cases hlt:q<m.length
    ·
     have hlti:(q:Int)<(m.length:Int):=by omega
     have hcn:=HF.out.c1 q hlt
     have hst:=HF.out.s1 q hlt
     obtain ⟨N,hN⟩:∃N,N=cntS m q:=⟨_,rfl⟩
     have hcl:cntS m q≤250:=by
      have h1:=offS_succ hlt
      have h2:=offS_le (m:=m) (i:=q+1) (by omega)
      have h3:=HSZ.out
      rw[cntS_at hlt]
      omega
     have hNi:(N:Int)≤250:=by omega
     have hrg:=wring_any (by omega) (opS_hdr HM.out HDD.out.2) q hlt wr (HR13.out.2.2.2.gr hgr)
     unfold RetRg at hrg
     rw[ringS_len,←hN,←HNM.out] at hrg
     have HRG:=Lib.hid hrg
     have HNE:=Lib.hid hN
     have hqi:IntKind.i64.wrap (q:Int)=(q:Int):=IntWalk.i64_in _ (by omega)
     clear hrg hN hcl hgr
     go_upto_region 25 with (go_at_call 27;refine HRG.out.mono ?_;rintro e w16 ⟨g16,A16,c16,rfl,hr16⟩;have H16:=Lib.hid (And.intro (HGR.out.trans g16) hr16);clear g16 hr16)
     clear zh zp h0 h1 h2 p0 p1

     obtain ⟨awd,hawe,hawb,hawc⟩:=(HR13.out.2.1.gr H16.out.1).rd.2 (by omega)
     obtain ⟨aid,haie,haib,haic⟩:=(HR13.out.2.2.1.gr H16.out.1).rd.2 (by omega)
     have hLw:=HR13.out.2.1.len
     have hLi:=HR13.out.2.2.1.len
     have wa:=hawc q _ (rgC_at m D1 Lw q (by omega))
     have ia:=haic q _ (rgC_at m D2 Li q (by omega))
     have hrw:=(HR13.out.2.1.gr H16.out.1).ri q (by omega)
     have hri:=(HR13.out.2.2.1.gr H16.out.1).ri q (by omega)
     rw[ringS_len,←HNE.out] at wa ia
     obtain ⟨⟨lwa,lwc⟩,hlw⟩:∃x,x=Lw[q]'(by omega):=⟨_,rfl⟩
     obtain ⟨⟨lia,lic⟩,hli⟩:∃x,x=Li[q]'(by omega):=⟨_,rfl⟩
     rw[←hlw] at wa hrw
     rw[←hli] at ia hri
     simp only at wa hrw ia hri
     subst hawe
     subst haie
     have hzw:∀z,(awd.add z).block<w16.heap.size:=fun z=>by rw[adB];exact hawb
     have hzi:∀z,(aid.add z).block<w16.heap.size:=fun z=>by rw[adB];exact haib
     have HRW:=Lib.hid (And.intro hrw hri)
     obtain ⟨zh,zp,h0,h1,h2,p0,p1⟩:=HC.out.gr (HR13.out.1.trans H16.out.1)
     obtain ⟨ahd,hae,hab,hac⟩:=(HRC.out.gr (HR13.out.1.trans H16.out.1)) (by rw[ints_len];omega)
     subst hae
     have hza:∀z,(ahd.add z).block<w16.heap.size:=fun z=>by rw[adB];exact hab
     obtain ⟨x0,x1⟩:=hac q (by rw[ints_len];exact hlt)
     rw[ints_at m q hlt] at x0 x1
     simp only at x0 x1
     rw[←stpS_at hlt] at x0
     rw[←cntS_at hlt,←HNE.out] at x1
     have hN1:0<N:=by have:=HNE.out;omega
     obtain ⟨rad,hre,hrb2,hrc⟩:=H16.out.2 (by rw[ringS_len,←HNE.out];exact hN1)
     obtain ⟨wad,hwe,hwb2,hwc⟩:=HRW.out.1 (by rw[ringS_len,←HNE.out];exact hN1)
     obtain ⟨iad,hie,hib2,hic⟩:=HRW.out.2 (by rw[ringS_len,←HNE.out];exact hN1)
     subst hre
     subst hwe
     subst hie
     have hzr:∀z,(rad.add z).block<w16.heap.size:=fun z=>by rw[adB];exact hrb2
     have hzww:∀z,(wad.add z).block<w16.heap.size:=fun z=>by rw[adB];exact hwb2
     have hzii:∀z,(iad.add z).block<w16.heap.size:=fun z=>by rw[adB];exact hib2
     have HRC2:=Lib.hid (And.intro hrc (And.intro hwc hic))
     clear hawc haic hlw hli hLw hLi hrw hri hac hawb haib hab hrc hwc hic hrb2 hwb2 hib2
     have hnn:((N:Int) != (N:Int))=false:=by simp
     go_wp2
     go_loopw [29] (fun i wr2=>∃k:Nat,k≤N∧i= .int .i64 k∧Gr w16 wr2) (fun i _=>N-(intOf i).toNat)
     case atStart=>exact ⟨0,Nat.zero_le _,rfl,Gr.refl _⟩
     case round=>
      obtain ⟨k,hk,rfl,hgk⟩:=hrel
      have HGK:=Lib.hid hgk
      by_cases hkl:k<N
      ·
       have hkli:(k:Int)<(N:Int):=by omega
       have hkl2:k<cntS m q:=by rw[←HNE.out];exact hkl
       have htn:=torn_slot HF.out HD1.out.2 HD2.out.2 HDD.out.2.1 hlt hkl2 (by
        have hin:=pos_in hlt hkl2
        have e:16+12*m.length+12*(((m.take q).map fun a=>a.2).sum+k)=offS m q+12*k:=by unfold offS;omega
        have:=HDD.out.1.sl (((m.take q).map fun a=>a.2).sum+k) (by have:=HQ.out.2;omega)
        rw[e] at this
        exact this)
       obtain ⟨r0,r1'⟩:=HRC2.out.1 k (by rw[ringS_len];exact hkl2)
       obtain ⟨s0,s1⟩:=HRC2.out.2.1 k (by rw[ringS_len];exact hkl2)
       obtain ⟨t0,t1⟩:=HRC2.out.2.2 k (by rw[ringS_len];exact hkl2)
       rw[ringS_at _ _ _ _ (by rw[ringS_len];exact hkl2)] at r0 r1' s0 s1 t0 t1
       simp only at r0 r1' s0 s1 t0 t1
       have htr:=decT_nn (slotS D (offS m q+12*k))
       have htr2:decT (slotS D (offS m q+12*k))≤4294967295:=decT_le (slot_len (by have:=pos_in hlt hkl2;have:=HDD.out.2.1;omega))
       generalize decT (slotS D (offS m q+12*k))=tr at *
       generalize decN (slotS D (offS m q+12*k))=vr at *
       generalize decT (slotS D1 (offS m q+12*k))=tw at *
       generalize decN (slotS D1 (offS m q+12*k))=vw at *
       generalize decT (slotS D2 (offS m q+12*k))=ti at *
       generalize decN (slotS D2 (offS m q+12*k))=vi at *
       have hki:IntKind.i64.wrap (k:Int)=(k:Int):=IntWalk.i64_in _ (by omega)
       clear hgk
       go_upto_region 30 with (fail)
       by_cases hA:tr=tw∧vr=vw
       ·
        obtain ⟨rfl,rfl⟩:=hA
        clear htn
        refine region_R (by kernel_rfl) (by kernel_rfl) ?_
        iterate 3 (refine rv ?_;simp only[Pu])
        refine r_val (v:=?qv4) (by kernel_rfl) (fun W hW=>?qh4) ?qr4
        case qh4=>have e0:=(Below.cell (HGK.out.trans hW) (p:=rad.add (k*2)) (hzr _)).trans r0;have e1:=(Below.cell (HGK.out.trans hW) (p:=⟨(rad.add (k*2)).block,(rad.add (k*2)).off+1,none⟩) (hzr _)).trans r1';go_light;go_simp;rfl
        simp only[Pu]
        iterate 3 (refine rv ?_;simp only[Pu])
        refine r_val (v:=?qv8) (by kernel_rfl) (fun W hW=>?qh8) ?qr8
        case qh8=>have e0:=(Below.cell (HGK.out.trans hW) (p:=awd.add q) (hzw _)).trans wa;go_light;go_simp;rfl
        simp only[Pu]
        iterate 2 (refine rv ?_;simp only[Pu])
        refine r_val (v:=?qv11) (by kernel_rfl) (fun W hW=>?qh11) ?qr11
        case qh11=>have e0:=(Below.cell (HGK.out.trans hW) (p:=wad.add (k*2)) (hzww _)).trans s0;have e1:=(Below.cell (HGK.out.trans hW) (p:=⟨(wad.add (k*2)).block,(wad.add (k*2)).off+1,none⟩) (hzww _)).trans s1;go_light;go_simp;rfl
        simp only[Pu]
        iterate 2 (refine rv ?_;simp only[Pu])
        iterate 12 (refine rs ?_;simp only[Pu])
        iterate 2 (refine rv ?_;simp only[Pu])
        iterate 13 (refine rs ?_;simp only[Pu])
        refine rv ?_;simp only[Pu]
        refine r_nil ?_
        intro w17 hw17
        have H17:=Lib.hid (HGK.out.trans hw17)
        clear hw17
        go_wp2
        go_roundw
        case rel=>exact ⟨k+1,by omega,by go_num,H17.out⟩
        case measure=>simp[intOf];omega
       ·
        by_cases hB:tr=ti∧vr=vi
        ·
         obtain ⟨rfl,rfl⟩:=hB
         have HA:=Lib.hid hA
         clear htn hA
         refine region_R (by kernel_rfl) (by kernel_rfl) ?_
         iterate 3 (refine rv ?_;simp only[Pu])
         refine r_val (v:=?qv20) (by kernel_rfl) (fun W hW=>?qh20) ?qr20
         case qh20=>have e0:=(Below.cell (HGK.out.trans hW) (p:=rad.add (k*2)) (hzr _)).trans r0;have e1:=(Below.cell (HGK.out.trans hW) (p:=⟨(rad.add (k*2)).block,(rad.add (k*2)).off+1,none⟩) (hzr _)).trans r1';go_light;go_simp;rfl
         simp only[Pu]
         iterate 3 (refine rv ?_;simp only[Pu])
         refine r_val (v:=?qv24) (by kernel_rfl) (fun W hW=>?qh24) ?qr24
         case qh24=>have e0:=(Below.cell (HGK.out.trans hW) (p:=awd.add q) (hzw _)).trans wa;go_light;go_simp;rfl
         simp only[Pu]
         iterate 2 (refine rv ?_;simp only[Pu])
         refine r_val (v:=?qv27) (by kernel_rfl) (fun W hW=>?qh27) ?qr27
         case qh27=>have e0:=(Below.cell (HGK.out.trans hW) (p:=wad.add (k*2)) (hzww _)).trans s0;have e1:=(Below.cell (HGK.out.trans hW) (p:=⟨(wad.add (k*2)).block,(wad.add (k*2)).off+1,none⟩) (hzww _)).trans s1;go_light;go_simp;rfl
         simp only[Pu]
         refine r_val (v:= .bool true) (by kernel_rfl) (fun W hW=>?nh1) ?nr1
         case nh1=>go_light;go_simp;exact fun z1 z2=>HA.out ⟨z1,z2⟩
         simp only[Pu]
         iterate 4 (refine rv ?_;simp only[Pu])
         refine r_val (v:=?qv32) (by kernel_rfl) (fun W hW=>?qh32) ?qr32
         case qh32=>have e0:=(Below.cell (HGK.out.trans hW) (p:=rad.add (k*2)) (hzr _)).trans r0;have e1:=(Below.cell (HGK.out.trans hW) (p:=⟨(rad.add (k*2)).block,(rad.add (k*2)).off+1,none⟩) (hzr _)).trans r1';go_light;go_simp;rfl
         simp only[Pu]
         iterate 3 (refine rv ?_;simp only[Pu])
         refine r_val (v:=?qv36) (by kernel_rfl) (fun W hW=>?qh36) ?qr36
         case qh36=>have e0:=(Below.cell (HGK.out.trans hW) (p:=aid.add q) (hzi _)).trans ia;go_light;go_simp;rfl
         simp only[Pu]
         iterate 2 (refine rv ?_;simp only[Pu])
         refine r_val (v:=?qv39) (by kernel_rfl) (fun W hW=>?qh39) ?qr39
         case qh39=>have e0:=(Below.cell (HGK.out.trans hW) (p:=iad.add (k*2)) (hzii _)).trans t0;have e1:=(Below.cell (HGK.out.trans hW) (p:=⟨(iad.add (k*2)).block,(iad.add (k*2)).off+1,none⟩) (hzii _)).trans t1;go_light;go_simp;rfl
         simp only[Pu]
         iterate 3 (refine rv ?_;simp only[Pu])
         iterate 13 (refine rs ?_;simp only[Pu])
         refine rv ?_;simp only[Pu]
         refine r_nil ?_
         intro w17 hw17
         have H17:=Lib.hid (HGK.out.trans hw17)
         clear hw17
         go_wp2
         go_roundw
         case rel=>exact ⟨k+1,by omega,by go_num,H17.out⟩
         case measure=>simp[intOf];omega
        ·
         have HA:=Lib.hid hA
         have HB:=Lib.hid hB
         have hno:=(htn.resolve_left hA).resolve_left hB
         have HNO:=Lib.hid hno
         clear htn hA hB hno
         have hre:∀W,Calls Tryz.prog 28 #[.agg #[.int .i64 (stpS m q:Nat), .int .i64 N], .int .i64 tr, .int .i64 k, .int .i64 now] W fun e w'=>e= .returned (.bool false)∧Gr W w':=fun W=>by
          have h1:=reached_any (stpS m q:Nat) (N:Nat) tr (k:Int) now (by omega) (by omega) (by omega) (by omega) htr htr2 n1 n2 W
          refine h1.mono fun e w' h=>?_
          obtain ⟨⟨b,e1,e2⟩,e3⟩:=h
          cases b with
          | false=>exact ⟨e1,e3⟩
          | true=>
           obtain ⟨a1,a2,a3,a4,a5⟩:=e2 rfl
           exact absurd ⟨a1,a2,by rw[←HNE.out];exact a3,a4,by rw[←HNE.out];exact a5⟩ HNO.out
         have HRE:=Lib.hid hre
         clear hre
         refine region_R (by kernel_rfl) (by kernel_rfl) ?_
         iterate 3 (refine rv ?_;simp only[Pu])
         refine r_val (v:=?qv47) (by kernel_rfl) (fun W hW=>?qh47) ?qr47
         case qh47=>have e0:=(Below.cell (HGK.out.trans hW) (p:=rad.add (k*2)) (hzr _)).trans r0;have e1:=(Below.cell (HGK.out.trans hW) (p:=⟨(rad.add (k*2)).block,(rad.add (k*2)).off+1,none⟩) (hzr _)).trans r1';go_light;go_simp;rfl
         simp only[Pu]
         iterate 3 (refine rv ?_;simp only[Pu])
         refine r_val (v:=?qv51) (by kernel_rfl) (fun W hW=>?qh51) ?qr51
         case qh51=>have e0:=(Below.cell (HGK.out.trans hW) (p:=awd.add q) (hzw _)).trans wa;go_light;go_simp;rfl
         simp only[Pu]
         iterate 2 (refine rv ?_;simp only[Pu])
         refine r_val (v:=?qv54) (by kernel_rfl) (fun W hW=>?qh54) ?qr54
         case qh54=>have e0:=(Below.cell (HGK.out.trans hW) (p:=wad.add (k*2)) (hzww _)).trans s0;have e1:=(Below.cell (HGK.out.trans hW) (p:=⟨(wad.add (k*2)).block,(wad.add (k*2)).off+1,none⟩) (hzww _)).trans s1;go_light;go_simp;rfl
         simp only[Pu]
         refine r_val (v:= .bool true) (by kernel_rfl) (fun W hW=>?nh2) ?nr2
         case nh2=>go_light;go_simp;exact fun z1 z2=>HA.out ⟨z1,z2⟩
         simp only[Pu]
         iterate 4 (refine rv ?_;simp only[Pu])
         refine r_val (v:=?qv59) (by kernel_rfl) (fun W hW=>?qh59) ?qr59
         case qh59=>have e0:=(Below.cell (HGK.out.trans hW) (p:=rad.add (k*2)) (hzr _)).trans r0;have e1:=(Below.cell (HGK.out.trans hW) (p:=⟨(rad.add (k*2)).block,(rad.add (k*2)).off+1,none⟩) (hzr _)).trans r1';go_light;go_simp;rfl
         simp only[Pu]
         iterate 3 (refine rv ?_;simp only[Pu])
         refine r_val (v:=?qv63) (by kernel_rfl) (fun W hW=>?qh63) ?qr63
         case qh63=>have e0:=(Below.cell (HGK.out.trans hW) (p:=aid.add q) (hzi _)).trans ia;go_light;go_simp;rfl
         simp only[Pu]
         iterate 2 (refine rv ?_;simp only[Pu])
         refine r_val (v:=?qv66) (by kernel_rfl) (fun W hW=>?qh66) ?qr66
         case qh66=>have e0:=(Below.cell (HGK.out.trans hW) (p:=iad.add (k*2)) (hzii _)).trans t0;have e1:=(Below.cell (HGK.out.trans hW) (p:=⟨(iad.add (k*2)).block,(iad.add (k*2)).off+1,none⟩) (hzii _)).trans t1;go_light;go_simp;rfl
         simp only[Pu]
         refine r_val (v:= .bool true) (by kernel_rfl) (fun W hW=>?nh3) ?nr3
         case nh3=>go_light;go_simp;exact fun z1 z2=>HB.out ⟨z1,z2⟩
         simp only[Pu]
         iterate 3 (refine rv ?_;simp only[Pu])
         refine r_val (v:=?qv70) (by kernel_rfl) (fun W hW=>?qh70) ?qr70
         case qh70=>have e0:=(Below.cell (HGK.out.trans hW) (p:=⟨hb,2,none⟩) zh).trans h2;go_light;go_simp;rfl
         simp only[Pu]
         iterate 2 (refine rv ?_;simp only[Pu])
         refine r_val (v:=?qv73) (by kernel_rfl) (fun W hW=>?qh73) ?qr73
         case qh73=>have e0:=(Below.cell (HGK.out.trans hW) (p:=ahd.add (q*2)) (hza _)).trans x0;have e1:=(Below.cell (HGK.out.trans hW) (p:=⟨(ahd.add (q*2)).block,(ahd.add (q*2)).off+1,none⟩) (hza _)).trans x1;go_light;go_simp;rfl
         simp only[Pu]
         iterate 4 (refine rv ?_;simp only[Pu])
         refine r_val (v:=?qv78) (by kernel_rfl) (fun W hW=>?qh78) ?qr78
         case qh78=>have e0:=(Below.cell (HGK.out.trans hW) (p:=rad.add (k*2)) (hzr _)).trans r0;have e1:=(Below.cell (HGK.out.trans hW) (p:=⟨(rad.add (k*2)).block,(rad.add (k*2)).off+1,none⟩) (hzr _)).trans r1';go_light;go_simp;rfl
         simp only[Pu]
         iterate 2 (refine rv ?_;simp only[Pu])
         refine r_call (v:= .bool false) (f:=?qf81) (args:=?qa81) (by kernel_rfl) (fun W hW=>?qh81) (fun W hW=>?qc81) ?qr81
         case qh81=>go_light;go_simp;constructor<;>rfl
         case qc81=>exact (HRE.out _).mono (fun e w' h=>⟨h.1,Gr.trans hW h.2⟩)
         simp only[Pu]
         refine rv ?_;simp only[Pu]
         refine r_nil ?_
         intro w17 hw17
         have H17:=Lib.hid (HGK.out.trans hw17)
         clear hw17
         go_wp2
         go_roundw
         case rel=>exact ⟨k+1,by omega,by go_num,H17.out⟩
         case measure=>simp[intOf];omega
      ·
       have hkli:¬(k:Int)<(N:Int):=by omega
       clear hgk
       go_wp2
       go_roundw
       case rel=>exact ⟨q+1,by omega,by go_num,H16.out.1.trans HGK.out⟩
       case measure=>simp[intOf];omega
    ·
     have hlti:¬(q:Int)<(m.length:Int):=by omega
     clear hgr
     go_wp2_with (go_at_call 18;refine (known7_any _).mono ?_;rintro e w18 ⟨rfl,g18⟩;have H18:=Lib.hid (HGR.out.trans g18);clear g18)
     go_ret
     exact ⟨rfl,HG.out.trans (HR13.out.1.trans H18.out)⟩
end
section
open Go.ChangeShapes Go.WideShapes Go.ChangeAt Go.RowKit Go.Joins
open Go.Deep (open_slice_pairs)
theorem own_knob:ownKnob Tryz.prog.godebug=none:=by kernel_rfl
theorem laid_out:laidOutB Tryz.prog=true:=by kernel_rfl

end
section
open Go.ChangeShapes Go.WideShapes Go.ChangeAt Go.RowKit Go.Joins
theorem cells_header:Tryz.prog.cellsOf 24=3:=by kernel_rfl
theorem cells_arch:Tryz.prog.cellsOf 69=2:=by kernel_rfl
def Rg (w:World) (A:Option Addr) (l:List (Int×Int)):Prop:=
 0<l.length→∃ad:Addr,A=some ad∧ad.block<w.heap.size∧∀k (h:k<l.length),w.cell? (ad.add (k*2))=some (.int .i64 l[k].1)∧w.cell? ⟨(ad.add (k*2)).block,(ad.add (k*2)).off+1,none⟩=some (.int .i64 l[k].2)
section
variable {H:Type} {enc:TypeId×Value→H} {w:World} {held:Bool}
theorem choose_pr {m:Nat} {P:Nat→Int×Int→Prop} (h:∀i,i<m→∃a,P i a):∃l:List (Int×Int),l.length=m∧∀i (hi:i<l.length),P i l[i]:=by
 induction m with
 | zero=>exact ⟨[],rfl,fun i hi=>absurd hi (by simp)⟩
 | succ m ih=>
  obtain ⟨l,hl,hp⟩:=ih (fun i hi=>h i (by omega))
  obtain ⟨a,ha⟩:=h m (by omega)
  refine ⟨l++[a],by simp[hl],fun i hi=>?_⟩
  by_cases hlt:i<l.length
  ·
   rw[List.getElem_append_left hlt];exact hp i hlt
  ·
   obtain rfl:i=m:=by simp at hi;omega
   simpa [hl] using ha
theorem pairs_cs {n:Nat} {t e:TypeId} {f0 f1:Field} {cs:List Value} {x:DataW H×List MemPlace} (ht:Tryz.prog.underlying t=some (.slice e)) (he:Tryz.prog.underlying e=some (.struct #[f0,f1])) (ce:Tryz.prog.cellsOf e=2) (o0:f0.offset=0) (o1:f1.offset=1) (t0:f0.type=3) (t1:f1.type=3)
  (hf:DataW.trod enc Tryz.prog w 0 (fun _=>true) held n t cs=some x):∃(A:Option Addr) (l:List (Int×Int)) (c:Nat),cs=[.slice A l.length c]∧l.length≤c∧c≤maxLen∧Rg w A l:=by
 rcases Go.Deep.open_slice_pairs ht he ce o0 o1 (by rw[t0];kernel_rfl) (by rw[t1];kernel_rfl) hf with ⟨hcs,_⟩|⟨a,len',cap',m,n,V0,V1,D0,D1,P0,P1,hcs,hb,hl,hm,hmm,hx,hi⟩
 ·
  exact ⟨none,[],0,hcs,Nat.zero_le _,Nat.zero_le _,fun h=>absurd h (Nat.lt_irrefl _)⟩
 ·
  simp at hmm
  subst hmm
  have each:∀i,i<len'→∃x:Int×Int,(w.cell? (a.add (i*2))=some (.int .i64 x.1)∧w.cell? (a.add (i*2+1))=some (.int .i64 x.2)):=by
   intro i hi'
   obtain ⟨h0,h1,k0,k1⟩:=hi i (by omega)
   rw[t0] at k0
   rw[t1] at k1
   obtain ⟨y,e0,_,_⟩:=DataW.trod_int Tryz.underlying3 k0
   obtain ⟨z,e1,_,_⟩:=DataW.trod_int Tryz.underlying3 k1
   simp at e0 e1
   rw[e0] at h0
   rw[e1] at h1
   exact ⟨(y,z),h0,h1⟩
  obtain ⟨l,hll,hp⟩:=choose_pr each
  refine ⟨some a,l,_,by rw[hll];exact hcs,by omega,hm,fun hn=>⟨a,rfl,?_,fun k hk=>⟨(hp k hk).1,?_⟩⟩⟩
  ·
   have h0:=(hp 0 hn).1
   rw[Nat.zero_mul] at h0
   exact World.block_lt_of_cell? w _ h0
  ·
   have:=(hp k hk).2
   rw[←this]
   exact (congrArg w.cell? (add_next a (k*2) 0)).symm
theorem open_header {r:Reach} {b0:Nat} {v:Value} {d:DataW H} {p:List MemPlace} (hv:Value.okWide Tryz.prog w r b0 24 v)
  (h:DataW.Trod enc Tryz.prog w 0 (fun _=>true) held 24 v d p):∃(ag xf:Int) (A:Option Addr) (l:List (Int×Int)) (c:Nat),v= .agg #[.int .i64 ag, .int .i64 xf, .slice A l.length c]∧l.length≤c∧c≤maxLen∧Rg w A l:=by
 obtain ⟨cs,rfl,_⟩:=okWide_struct Tryz.underlying24 hv
 obtain ⟨fuel,hf⟩:=h
 obtain ⟨xs,k,_,_,hl,hlen,hi⟩:=DataW.trod_struct Tryz.underlying24 hf
 rw[cells_header] at hl
 have e:∃v0 v1 v2,cs= #[v0,v1,v2]:=by
  obtain ⟨L⟩:=cs
  match L,hl with
  | [v0,v1,v2],_=>exact ⟨v0,v1,v2,rfl⟩
 obtain ⟨v0,v1,v2,rfl⟩:=e
 match xs,hlen with
 | [y0,y1,y2],_=>
  have g0:=hi 0 _ rfl
  have g1:=hi 1 _ rfl
  have g2:=hi 2 _ rfl
  have k3:Tryz.prog.cellsOf 3=1:=by kernel_rfl
  have k22:Tryz.prog.cellsOf 22=1:=by kernel_rfl
  simp[Value.cells,k3,k22] at g0 g1 g2
  obtain ⟨ag,e0,_,_⟩:=DataW.trod_int Tryz.underlying3 g0
  obtain ⟨xf,e1,_,_⟩:=DataW.trod_int Tryz.underlying3 g1
  obtain ⟨A,l,c,e2,hc,hm,hr⟩:=pairs_cs Tryz.underlying22 Tryz.underlying69 cells_arch rfl rfl rfl rfl g2
  simp at e0 e1 e2
  subst e0 e1 e2
  exact ⟨ag,xf,A,l,c,rfl,hc,hm,hr⟩
end
end
section
open Go.ChangeShapes Go.WideShapes Go.ChangeAt Go.RowKit Go.Joins
theorem cells_point:Tryz.prog.cellsOf 54=2:=by kernel_rfl
section
variable {H:Type} {enc:TypeId×Value→H} {w:World} {held:Bool}
theorem open_point {r:Reach} {b0:Nat} {v:Value} {d:DataW H} {p:List MemPlace} (hv:Value.okWide Tryz.prog w r b0 54 v)
  (h:DataW.Trod enc Tryz.prog w 0 (fun _=>true) held 54 v d p):∃(t n:Int),v= .agg #[.int .i64 t, .int .i64 n]∧(Lit.int .i64 t).wf=true:=by
 obtain ⟨cs,rfl,_⟩:=okWide_struct Tryz.underlying54 hv
 obtain ⟨fuel,hf⟩:=h
 obtain ⟨xs,k,_,_,hl,hlen,hi⟩:=DataW.trod_struct Tryz.underlying54 hf
 rw[cells_point] at hl
 have e:∃v0 v1,cs= #[v0,v1]:=by
  obtain ⟨L⟩:=cs
  match L,hl with
  | [v0,v1],_=>exact ⟨v0,v1,rfl⟩
 obtain ⟨v0,v1,rfl⟩:=e
 match xs,hlen with
 | [y0,y1],_=>
  have g0:=hi 0 _ rfl
  have g1:=hi 1 _ rfl
  have k3:Tryz.prog.cellsOf 3=1:=by kernel_rfl
  simp[Value.cells,k3] at g0 g1
  obtain ⟨t,e0,_,wt⟩:=DataW.trod_int Tryz.underlying3 g0
  obtain ⟨n,e1,_,_⟩:=DataW.trod_int Tryz.underlying3 g1
  simp at e0 e1
  subst e0 e1
  exact ⟨t,n,rfl,wt⟩
theorem open_points {r:Reach} {b0:Nat} {v:Value} {d:DataW H} {p:List MemPlace} (hv:Value.okWide Tryz.prog w r b0 38 v)
  (h:DataW.Trod enc Tryz.prog w 0 (fun _=>true) held 38 v d p):∃(A:Option Addr) (l:List (Int×Int)) (c:Nat),v= .slice A l.length c∧l.length≤c∧c≤maxLen∧Rg w A l:=by
 obtain ⟨a0,len,cap,rfl⟩:=okWide_slice Tryz.underlying38 hv
 obtain ⟨fuel,hf⟩:=h
 obtain ⟨A,l,c,e,h1,h2,h3⟩:=pairs_cs Tryz.underlying38 Tryz.underlying54 cells_point rfl rfl rfl rfl hf
 simp[Value.cells] at e
 obtain ⟨rfl,rfl,rfl⟩:=e
 exact ⟨_,l,_,rfl,h1,h2,h3⟩
end
end
end Go.Proofs.YtoncapkmaeghfaaGreat
