import Derived.Test.YtjapddfnpmlifaaGreatDoorRunPkVis
import Derived.Test.YtjapddfnpmlifaaGreatDoorRunFxBase
import Derived.Deep.Light
set_option linter.all false
set_option maxRecDepth 1000000
set_option maxHeartbeats 12800000
namespace Go.Proofs.YtjapddfnpmlifaaGreatDoor
section
open Go.RowKit Go.Maps
theorem padds_any (b0 hw hl B nB n cA G:Nat) (A:Option Addr) (code:List In) (s:ByteArray) (p:Nat) (Q:Int->Prop) (sv:Value) (pc:Int) (w:World) (v:Value) (W:List Pw) (Wn:List Nat) (S:Int->Bool)
  (hn:n=code.length) (hn2:n<=2000) (hnB0:nB<=n) (hs:(s.size:Int)<=4096) (hp:p<=s.size) (k0:w.cell? ⟨hw,0,none⟩=some (.int .i64 G)) (k1:w.cell? ⟨hw,1,none⟩=some (.slice A n cA)) (k2:w.cell? ⟨hw,2,none⟩=some (.string s)) (hr:Ri w A code)
  (hwx:¬exA hl B v hw) (hax:0<n->∀ad,A=some ad->¬exA hl B v ad.block) (hL:LsM b0 hl B nB w v W S) (hb0:b0<=w.heap.size) (hPl:PlX (exA hl B v) w sv) (hW:W.map (·.pc)=Wn.map (λk:Nat=>(k:Int))) (law:PkA code s.data.toList p Q S Wn []) (hQ0:Q pc) (hQ:∀(k:Nat) x,Q k->x∈succE code s.data.toList k p->Q x) :
  Calls Tryz.prog 55 #[.pointer (some ⟨hw,0,none⟩), .pointer (some ⟨hl,0,none⟩), .agg #[sv, .int .i64 pc], .int .i64 p] w (RetAd b0 hl B nB n code s.data.toList p Q w v S pc):=by
 obtain ⟨i0,hi0,hz0,hz1,hz2⟩:=info_parts info_pway;go_enter Tryz.func55,Tryz.ntmps55;go_wp2;obtain ⟨w1,hw1⟩:∃w1,w1=(w.alloc (.cells #[sv, .int .i64 pc] 128)).alloc (.cells #[sv, .int .i64 pc] 128):=⟨_,rfl⟩
 have K0:RelAd b0 hl B n code s.data.toList p Q w v S nB pc (.slice (some ⟨w.heap.size+1,0,none⟩) 1 1) w1:=
  ⟨_,_,_,_,_,_,ad_start hw1 hL hb0 hPl hW law hQ0,unseenP_first S n,rfl⟩
 rw[<-hw1];have HK0:=Lib.hid K0;have HR:=Lib.hid hr;have HA:=Lib.hid (And.intro hwx (And.intro hax hQ));have HCC:=Lib.hid (And.intro hn (And.intro hL.hz (And.intro hL.mp.lt hb0)));clear hw1 K0 hr hwx hax hQ hn hL hb0 hPl hW law hQ0
 go_loopw [8] (RelAd b0 hl B n code s.data.toList p Q w v S nB pc) (λv8 wr=>3*unseenPW B n wr+lenP v8)
 case atStart=>exact HK0.out
 case round=>
  clear HK0;obtain ⟨T,v',W',Wn',S',nB',I,hlen,hnB⟩:=hrel;rcases List.eq_nil_or_concat T with rfl|⟨T0,x,rfl⟩
  ·obtain ⟨A2,c2,hv⟩:=own_form I.own;subst hv;have HI:=Lib.hid (I.ret hnB);clear I hlen hnB;go_wp2;go_end0;exact HI.out
  ·rw[List.concat_eq_append] at I hlen;obtain ⟨A2,cv,hv⟩:=own_form I.own;rw[List.length_append,List.length_singleton] at hv hlen;subst hv;have hown:=I.own;rw[List.length_append,List.length_singleton] at hown;obtain ⟨g,rfl,hgb,hgz,hcells⟩:=own_blockU hown (Nat.succ_pos _);obtain ⟨t0,t1⟩:=top_pcells hcells;have hcv:=own_cap' hown;have hcvi:(T0.length:Int)+1<=(cv:Int):=by omega
   have hcvm:(cv:Int)<=9223372036854775807:=by have:=hcv.2;unfold maxLen at this;omega
   have hTl:=tlP_le hlen hn2;have hTi:(T0.length:Int)<=4000:=by omega
   have HI:=Lib.hid (And.intro I (And.intro hlen hnB));obtain ⟨a,ms,⟨cs,hsv,hm0,hm3,haz,hac⟩,hex⟩:=I.pT x (List.mem_append_right _ (List.mem_singleton.2 rfl));have HPX:=Lib.hid (And.intro hm0 (And.intro hm3 (And.intro haz (And.intro hac hex))));obtain ⟨xsv,xpc⟩:=x;simp only at t0 t1 hsv;subst hsv;clear hm0 hm3 haz hac hex;clear hown hcells hlen hnB I hgb hcv;go_upto_region 5 with (fail)
   obtain ⟨I, -, -⟩:=HI.out;obtain ⟨wB,hwB⟩:∃wB,wB=wr.alloc (.cells #[.slice (some ⟨a,0,none⟩) ms cs, .int .i64 xpc] 128):=⟨_,rfl⟩
   have gB:Gr wr wB:=by rw[hwB];exact Gr.alloc (Gr.refl wr) _
   have hzw:wr.heap.size<wB.heap.size:=by rw[hwB];simp
   have e0:wB.cell? ⟨wr.heap.size,0,none⟩=some (.slice (some ⟨a,0,none⟩) ms cs):=by rw[hwB];go_simp
   have e1:wB.cell? ⟨wr.heap.size,1,none⟩=some (.int .i64 xpc):=by rw[hwB];go_simp
   rw[<-hwB];have hw0:hw<w.heap.size:=World.block_lt_of_cell? _ _ k1;have fB:=I.fr.trans (FrX.gr gB);have k1b:=(fB.cell (p:=⟨hw,1,none⟩) hw0 HA.out.1).trans k1;have k2b:=(fB.cell (p:=⟨hw,2,none⟩) hw0 HA.out.1).trans k2;have hhw:hw<wB.heap.size:=Nat.lt_of_lt_of_le hw0 fB.size;have lsB:=I.ls.gr gB;have lB:=lsB.c1;have hhl:=lsB.hz;have HLS:=Lib.hid lsB;have GB:=Lib.hid gB;have HMP:=Lib.hid I.ls.mp;have hBw:Hid (hl<wr.heap.size/\B<wr.heap.size/\g<wr.heap.size/\(∀k,v'.ownBlock=some k->k<wr.heap.size)):=Lib.hid ⟨I.ls.hz,I.ls.mp.lt,hgz,λk hk=>(I.ls.own.lt k hk).2⟩;generalize wr.heap.size=Bw at hzw e0 e1 hBw ⊢;clear hwB gB fB lsB t0 t1;have HSK:Hid (∀wx,Gr wB wx->(InR code xpc->S' xpc=true)->RelAd b0 hl B n code s.data.toList p Q w v S nB pc (.slice (some ⟨g,0,none⟩) T0.length cv) wx/\3*unseenPW B n wx+T0.length<3*unseenPW B n wr+(T0.length+1)):=Lib.hid λwx gx hx=>⟨⟨T0,v',W',Wn',S',nB',HI.out.1.skip (GB.out.trans gx) hx,skip_len HI.out.2.1,HI.out.2.2⟩,by rw[(HLS.out.gr gx).mp.unseen hn2,HMP.out.unseen hn2];exact Nat.lt_succ_self _⟩
   clear I;by_cases hneg:xpc<0
   ·have n1:decide (xpc<0)=true:=decide_eq_true hneg;have HNR:Hid (InR code xpc->S' xpc=true):=Lib.hid λh=>absurd h.1 (by omega);refine region_R (by kernel_rfl) (by kernel_rfl) ?_;refine rv ?_;refine rv ?_ (h:=λW hW=>by have g1:=bc hW hzw e1;go_light;go_simp<;>rfl);(iterate 2 refine rv ?_);(iterate 9 refine rs ?_);(iterate 2 refine rv ?_);(iterate 7 refine rs ?_);refine rv ?_;refine r_nil ?_;intro w8 hw8;have HSS:=Lib.hid (HSK.out w8 hw8 HNR.out);clear hw8;go_wp2;go_roundw;case rel=>exact HSS.out.1
    case measure=>exact HSS.out.2
   have n1:decide (xpc<0)=false:=decide_eq_false hneg;by_cases hbig:(n:Int)<=xpc
   ·have n2:decide ((n:Int)<=xpc)=true:=decide_eq_true hbig;have HNR:Hid (InR code xpc->S' xpc=true):=Lib.hid λh=>absurd h.2 (by rw[<-HCC.out.1];omega);refine region_R (by kernel_rfl) (by kernel_rfl) ?_;refine rv ?_;refine rv ?_ (h:=λW hW=>by have g1:=bc hW hzw e1;go_light;go_simp<;>rfl);(iterate 3 refine rv ?_);refine rv ?_ (h:=λW hW=>by have g1:=bc hW hzw e1;go_light;go_simp<;>rfl);(iterate 4 refine rv ?_);refine rv ?_ (h:=λW hW=>by have g1:=bc hW hhw k1b;go_light;go_simp<;>rfl);(iterate 4 refine rv ?_);(iterate 7 refine rs ?_);refine rv ?_;refine r_nil ?_;intro w8 hw8;have HSS:=Lib.hid (HSK.out w8 hw8 HNR.out);clear hw8;go_wp2;go_roundw;case rel=>exact HSS.out.1
    case measure=>exact HSS.out.2
   have n2:decide ((n:Int)<=xpc)=false:=decide_eq_false hbig;obtain ⟨k,rfl⟩:∃k:Nat,xpc=k:=⟨xpc.toNat,by omega⟩
   have hkn:k<n:=by omega
   have HLK:Hid (∀W,Gr wB W->(Instr.lookup 120 (.map (some B)) (.int .i64 (k:Nat)) false).run Tryz.prog W= .ok (.bool (S' k)) W):=Lib.hid λW g=>(HLS.out.gr g).mp.look k (wf_small k (by omega));cases hsk:S' (k:Int)
   ·rw[hsk] at HLK;have hsk2:=Lib.hid hsk;clear hsk;refine region_R (by kernel_rfl) (by kernel_rfl) ?_;refine rv ?_;refine rv ?_ (h:=λW hW=>by have g1:=bc hW hzw e1;go_light;go_simp<;>rfl);(iterate 3 refine rv ?_);refine rv ?_ (h:=λW hW=>by have g1:=bc hW hzw e1;go_light;go_simp<;>rfl);(iterate 4 refine rv ?_);refine rv ?_ (h:=λW hW=>by have g1:=bc hW hhw k1b;go_light;go_simp<;>rfl);(iterate 7 refine rv ?_);refine rv ?_ (h:=λW hW=>by have g1:=bc hW hhl lB;go_light;go_simp<;>rfl);refine rv ?_;refine rv ?_ (h:=λW hW=>by have g1:=bc hW hzw e1;go_light;go_simp<;>rfl);refine rv ?_ (h:=λW hW=>by have g1:=HLK.out W hW;go_light;go_simp<;>rfl);refine rv ?_;refine r_nil ?_;intro w8 hw8;have e0b:=bc hw8 hzw e0;have e1b:=bc hw8 hzw e1;have lBb:=bc hw8 hhl lB;have k1c:=bc hw8 hhw k1b;have k2c:=bc hw8 hhw k2b;have hzw8:=Nat.lt_of_lt_of_le hzw hw8.size;have hhl8:=Nat.lt_of_lt_of_le hhl hw8.size;have HW8:=Lib.hid hw8;clear e0 e1 lB k1b k2b hzw hhl hw8;go_upto_region 6 with (fail)
    refine region_T 6 (by kernel_rfl) (by kernel_rfl) ?_;simp only[List.take];(iterate 3 refine qv ?_);refine qv ?_ (h:=λW hW=>by have g1:=bc hW hhl8 lBb;go_simp<;>rfl);refine qv ?_;refine qv ?_ (h:=λW hW=>by have g1:=bc hW hzw8 e1b;go_simp<;>rfl);refine wpQuiet_nil ?_;intro w10 hw10;simp only[List.drop];obtain ⟨D,hown,hmD,hDD⟩:=(HLS.out.gr (HW8.out.trans hw10)).mp;have hnBl:nB'<maxLen:=nb_small hnB0 hn2 HI.out.2.2;go_wp2_with (at_mapUpdate;refine wpList_mapUpdate_own _ rfl _ _ _ 120 rfl 3 4 key_int Tryz.underlying120 (plainElem Tryz.prog 4) B nB' D rfl hown hnBl _ _ (.int .i64 (k:Nat)) rfl rfl (keyOf_int_mk Tryz.underlying3 (wf_small k (by omega))) (.lit (.bool true)) [] (plainElem_bool Tryz.underlying4 true) ?_;intro w11 hown11 hgr11);have HMB:=Lib.hid (MpB.put hown11 hmD hDD);have V0:=HI.out.1.visit (by rw[<-HCC.out.1];exact hkn) HCC.out.2.1 HCC.out.2.2.1 HA.out.2.2 ((GB.out.trans HW8.out).trans hw10) hgr11 HMB.out;have f11:FrX (λx=>x=B) w10 w11:=FrX.grown hgr11 (λx e=>by injection e with e;exact e.symm);have hz10:Bw<w10.heap.size:=Nat.lt_of_lt_of_le hzw8 hw10.size;have hBB:Bw≠B:=λe=>by have:=hBw.out.2.1;omega
    have e0c:=(f11.cell (p:=⟨Bw,0,none⟩) hz10 hBB).trans ((bc hw10 hzw8 e0b));have e1c:=(f11.cell (p:=⟨Bw,1,none⟩) hz10 hBB).trans ((bc hw10 hzw8 e1b));have k1d:=(V0.fr.cell (p:=⟨hw,1,none⟩) hw0 HA.out.1).trans k1;have k2d:=(V0.fr.cell (p:=⟨hw,2,none⟩) hw0 HA.out.1).trans k2;have hzw11:Bw<w11.heap.size:=Nat.lt_of_lt_of_le hz10 f11.size;have hhw11:hw<w11.heap.size:=Nat.lt_of_lt_of_le hw0 V0.fr.size;have HK:=Lib.hid V0.hk;obtain ⟨ad,rfl,hadlt,d0,d1,d2,d3⟩:=Ri.at (HR.out.fr V0.fr (λ_=>HA.out.2.1 (by omega))) HK.out;obtain ⟨vi,hvi⟩:∃vi,vi=code[k]'HK.out:=⟨_,rfl⟩
    rw[<-hvi] at d0 d1 d2 d3;obtain ⟨op,x,y,ps⟩:=vi;simp only at d0 d1 d2 d3;have HVV:=Lib.hid hvi.symm;have HV:=Lib.hid V0;have hkni:(k:Int)<(n:Int):=by omega
    have HK1:=Lib.hid (And.intro k1 k2);clear V0 f11 hz10 hBB e0b e1b lBb k1c k2c hzw8 hhl8 HW8 hw10 hgr11 hown hmD hDD hown11 HMB hvi k0 k1 k2 hhw HLS HLK;go_upto_region 7 with (fail)
    refine wp_region_Z 10 (λW=>Gr w11 W) (by kernel_rfl) ?_;have hS0:Gr w11 w11.drew:=Gr.drew (Gr.refl _);refine zu 0 hS0 ?_;refine zu 1 hS0 ?_;refine zu 2 hS0 ?_;refine zu 3 hS0 ?_;refine zu 4 hS0 ?_ (hy:=λW hS=>by have g1:=bc hS hhw11 k1d;go_simp<;>rfl);refine zu 5 hS0 ?_;refine zu 6 hS0 ?_ (hy:=λW hS=>by have g1:=bc hS hzw11 e1c;go_simp<;>rfl);refine zu 7 hS0 ?_;refine zu 8 hS0 ?_ (hy:=λW hS=>by have g0:=(Below.cell hS (p:=ad.add (k*4)) (by rw[add_blk];exact hadlt)).trans d0;have g1:=bc hS (by rw[add_blk];exact hadlt) d1;have g2:=bc hS (by rw[add_blk];exact hadlt) d2;have g3:=bc hS (by rw[add_blk];exact hadlt) d3;go_simp<;>rfl);refine zs 9 rfl (λK hK=>?_);go_wp2_with fail;refine hK.out _ _ (λhnz=>?s35) (λ_=>?r35);case s35=>exact Gr.alloc hS0 _
    clear hK K;try simp only[Pu,Gl]
    refine zs 10 rfl (λK hK=>?_);go_wp2_with fail;refine hK.out _ _ (λhnz=>?s36) (λ_=>?r36);case s36=>exact absurd rfl hnz
    clear hK K;try simp only[Pu,Gl]
    refine wpAnyZ_done (by kernel_rfl) ?_ _;obtain ⟨wC,hwC⟩:∃wC,wC=(w11.alloc (.cells #[.int .i64 op, .int .i64 x, .int .i64 y, .string ⟨ps.toArray⟩] 163)).drew:=⟨_,rfl⟩
    have gC:Gr w11 wC:=by rw[hwC];exact Gr.drew (Gr.alloc (Gr.refl w11) _)
    have q0:wC.cell? ⟨w11.heap.size,0,none⟩=some (.int .i64 op):=by rw[hwC];go_simp
    have q1:wC.cell? ⟨w11.heap.size,1,none⟩=some (.int .i64 x):=by rw[hwC];go_simp
    have q2:wC.cell? ⟨w11.heap.size,2,none⟩=some (.int .i64 y):=by rw[hwC];go_simp
    have hzqC:w11.heap.size<wC.heap.size:=by rw[hwC];simp
    rw[<-hwC];clear hwC hS0;have V2:=HV.out.gr gC;have HVC:=Lib.hid V2;have e0C:=bc gC hzw11 e0c;have e1C:=bc gC hzw11 e1c;have k2C:=bc gC hhw11 k2d;have hzwC:Bw<wC.heap.size:=Nat.lt_of_lt_of_le hzw11 gC.size;have hhlC:hl<wC.heap.size:=V2.ls.hz;have lC:=V2.ls.c0;have lCf:=V2.ls.f0;have hnBV:¬some Bw=v'.ownBlock:=λe=>by have:=hBw.out.2.2.2 Bw e.symm;omega
    have hnhV:¬some hl=v'.ownBlock:=λe=>V2.ls.nv.1 e.symm;have hgw:¬Bw=g:=λe=>by have:=hBw.out.2.2.1;omega
    have hgq:¬w11.heap.size=g:=λe=>by have:=hBw.out.2.2.1;omega
    have HNE:=Lib.hid (And.intro hnBV (And.intro hnhV (And.intro hgw hgq)));have HNB:Hid (nB'+1<=4001):=Lib.hid (by have:=HI.out.2.2;have h1:=unseenP_first S n;omega);generalize w11.heap.size=Bq at q0 q1 q2 hzqC HNE hgq ⊢;clear gC V2 d0 d1 d2 d3 hadlt HV e0c e1c k1d k2d hzw11 hhw11 hnBV hnhV hgw hgq GB;by_cases o1:op=1
    ·subst o1;obtain ⟨hnBV,hnhV, -, -⟩:=HNE.out;have HSN:=Lib.hid (And.intro hnBV hnhV);go_upto_region 11 with (fail)
     refine wp_region_Z 10 (FrX (λz=>some z=v'.ownBlock) wC) (by kernel_rfl) ?_;have hS0:FrX (λz=>some z=v'.ownBlock) wC wC.drew:=FrX.gr (Gr.drew (Gr.refl _));refine zu 0 hS0 ?_;refine zu 1 hS0 ?_;refine zu 2 hS0 ?_;refine zu 3 hS0 ?_;refine zu 4 hS0 ?_ (hy:=λW hS=>by have g1:=(hS.cell (p:=⟨hl,0,none⟩) hhlC HSN.out.2).trans lC;go_simp<;>rfl);refine zu 5 hS0 ?_ (hy:=λW hS=>by have g1:=(hS.cell (p:=⟨Bw,0,none⟩) hzwC HSN.out.1).trans e0C;have g2:=(hS.cell (p:=⟨Bw,1,none⟩) hzwC HSN.out.1).trans e1C;go_simp<;>rfl);refine zs 6 rfl (λK hK=>?_);go_wp2_with fail;refine hK.out _ _ (λhnz=>?s7o1) (λ_=>?r7o1);case s7o1=>exact hS0.trans (FrX.gr (Gr.alloc (Gr.refl _) _))
     clear hK K;try simp only[Pu,Gl]
     obtain ⟨U,hU⟩:∃U,U=(wC.alloc (.cells ([.slice (some ⟨a,0,none⟩) ms cs, .int .i64 (k:Int)]:List Value).toArray 128)).drew:=⟨_,rfl⟩
     have gU:Gr wC U:=by rw[hU];exact Gr.drew (Gr.alloc (Gr.refl wC) _)
     have hrx:Rd U 2 (some ⟨wC.heap.size,0,none⟩) 1 ([.slice (some ⟨a,0,none⟩) ms cs, .int .i64 (k:Int)]:List Value):=by rw[hU];exact (Rd.newU (W:=wC) rfl 128 _ rfl).gr (Gr.drew (Gr.refl _))
     rw[<-hU];clear hU;have VU:=HVC.out.gr gU;have hv0:=VU.ls.own;have hwl:=VU.wl1;have hnbl:=HNB.out;have hbU:b0<=U.heap.size:=Nat.le_trans HCC.out.2.2.2 VU.fr.size;have HVU:=Lib.hid VU;have SU:FrX (λz=>some z=v'.ownBlock) wC U:=FrX.gr gU;have HGU:=Lib.hid gU;clear VU gU hS0;refine zs 7 rfl (λK hK=>?_);refine wp_append_rd0 (.tmp 74) (.tmp 76) 121 rfl b0 128 i0 _ 2 32 Tryz.underlying121 hi0 hz0 hz1 hz2 rfl (by decide) _ W'.length _ rfl hv0 (some ⟨wC.heap.size,0,none⟩) 1 _ [.slice (some ⟨a,0,none⟩) ms cs, .int .i64 (k:Int)] rfl hrx (by simp[Value.oneCell']) (by unfold maxLen;omega) (by omega) hbU ?_;intro v9 w2 hown2 hgr2 hat2;obtain ⟨A9,c9,hv9⟩:=own_form hown2;subst hv9;have S2:FrX (λz=>some z=v'.ownBlock) wC w2:=SU.trans (FrX.grown hgr2 (λx e=>e.symm));have HG:=Lib.hid (And.intro hown2 (And.intro hgr2 hat2));clear hown2 hgr2 hat2 hrx hv0 hwl hnbl hbU;refine hK.out _ _ (λhnz=>?s8o1) (λ_=>?r8o1);case s8o1=>exact S2
     clear hK K;try simp only[Pu,Gl]
     refine zu 8 S2 ?_;refine zu 9 S2 ?_;refine zs 10 rfl (λK hK=>?_);have f2:=(S2.frozen (p:=⟨hl,0,none⟩) hhlC HSN.out.2).trans lCf;have s2:=(S2.cell (p:=⟨hl,0,none⟩) hhlC HSN.out.2).trans lC;go_wp2_with fail;refine hK.out _ _ (λhnz=>?s11o1) (λ_=>?r11o1);case s11o1=>exact absurd rfl hnz
     clear hK K;try simp only[Pu,Gl]
     refine wpAnyZ_done (by kernel_rfl) ?_ _;have R1:=HVU.out.keep (by rw[HVV.out];simp) (by rw[succE_set HK.out _ (by rw[HVV.out])]) HG.out.1 HCC.out.2.2.2 HG.out.2.1 HG.out.2.2;have HF:=Lib.hid (R1.fin (m:=0) hkn hn2 hsk2.out HMP.out HI.out.2.1 HI.out.2.2 rfl (by decide));clear f2 s2 R1 S2 SU;go_wp2;go_roundw;case rel=>exact HF.out.1
     case measure=>exact HF.out.2
    have c1:(op==1)=false:=beq_eq_false_iff_ne.2 o1;by_cases o7:op=7
    ·subst o7;obtain ⟨hnBV,hnhV, -, -⟩:=HNE.out;have HSN:=Lib.hid (And.intro hnBV hnhV);go_upto_region 11 with (fail)
     refine wp_region_Z 10 (FrX (λz=>some z=v'.ownBlock) wC) (by kernel_rfl) ?_;have hS0:FrX (λz=>some z=v'.ownBlock) wC wC.drew:=FrX.gr (Gr.drew (Gr.refl _));refine zu 0 hS0 ?_;refine zu 1 hS0 ?_;refine zu 2 hS0 ?_;refine zu 3 hS0 ?_;refine zu 4 hS0 ?_ (hy:=λW hS=>by have g1:=(hS.cell (p:=⟨hl,0,none⟩) hhlC HSN.out.2).trans lC;go_simp<;>rfl);refine zu 5 hS0 ?_ (hy:=λW hS=>by have g1:=(hS.cell (p:=⟨Bw,0,none⟩) hzwC HSN.out.1).trans e0C;have g2:=(hS.cell (p:=⟨Bw,1,none⟩) hzwC HSN.out.1).trans e1C;go_simp<;>rfl);refine zs 6 rfl (λK hK=>?_);go_wp2_with fail;refine hK.out _ _ (λhnz=>?s7o7) (λ_=>?r7o7);case s7o7=>exact hS0.trans (FrX.gr (Gr.alloc (Gr.refl _) _))
     clear hK K;try simp only[Pu,Gl]
     obtain ⟨U,hU⟩:∃U,U=(wC.alloc (.cells ([.slice (some ⟨a,0,none⟩) ms cs, .int .i64 (k:Int)]:List Value).toArray 128)).drew:=⟨_,rfl⟩
     have gU:Gr wC U:=by rw[hU];exact Gr.drew (Gr.alloc (Gr.refl wC) _)
     have hrx:Rd U 2 (some ⟨wC.heap.size,0,none⟩) 1 ([.slice (some ⟨a,0,none⟩) ms cs, .int .i64 (k:Int)]:List Value):=by rw[hU];exact (Rd.newU (W:=wC) rfl 128 _ rfl).gr (Gr.drew (Gr.refl _))
     rw[<-hU];clear hU;have VU:=HVC.out.gr gU;have hv0:=VU.ls.own;have hwl:=VU.wl1;have hnbl:=HNB.out;have hbU:b0<=U.heap.size:=Nat.le_trans HCC.out.2.2.2 VU.fr.size;have HVU:=Lib.hid VU;have SU:FrX (λz=>some z=v'.ownBlock) wC U:=FrX.gr gU;have HGU:=Lib.hid gU;clear VU gU hS0;refine zs 7 rfl (λK hK=>?_);refine wp_append_rd0 (.tmp 74) (.tmp 76) 121 rfl b0 128 i0 _ 2 32 Tryz.underlying121 hi0 hz0 hz1 hz2 rfl (by decide) _ W'.length _ rfl hv0 (some ⟨wC.heap.size,0,none⟩) 1 _ [.slice (some ⟨a,0,none⟩) ms cs, .int .i64 (k:Int)] rfl hrx (by simp[Value.oneCell']) (by unfold maxLen;omega) (by omega) hbU ?_;intro v9 w2 hown2 hgr2 hat2;obtain ⟨A9,c9,hv9⟩:=own_form hown2;subst hv9;have S2:FrX (λz=>some z=v'.ownBlock) wC w2:=SU.trans (FrX.grown hgr2 (λx e=>e.symm));have HG:=Lib.hid (And.intro hown2 (And.intro hgr2 hat2));clear hown2 hgr2 hat2 hrx hv0 hwl hnbl hbU;refine hK.out _ _ (λhnz=>?s8o7) (λ_=>?r8o7);case s8o7=>exact S2
     clear hK K;try simp only[Pu,Gl]
     refine zu 8 S2 ?_;refine zu 9 S2 ?_;refine zs 10 rfl (λK hK=>?_);have f2:=(S2.frozen (p:=⟨hl,0,none⟩) hhlC HSN.out.2).trans lCf;have s2:=(S2.cell (p:=⟨hl,0,none⟩) hhlC HSN.out.2).trans lC;go_wp2_with fail;refine hK.out _ _ (λhnz=>?s11o7) (λ_=>?r11o7);case s11o7=>exact absurd rfl hnz
     clear hK K;try simp only[Pu,Gl]
     refine wpAnyZ_done (by kernel_rfl) ?_ _;have R1:=HVU.out.keep (by rw[HVV.out];simp) (by rw[succE_at HK.out _ (by rw[HVV.out];simp),succS_at HK.out,HVV.out];simp) HG.out.1 HCC.out.2.2.2 HG.out.2.1 HG.out.2.2;have HF:=Lib.hid (R1.fin (m:=0) hkn hn2 hsk2.out HMP.out HI.out.2.1 HI.out.2.2 rfl (by decide));clear f2 s2 R1 S2 SU;go_wp2;go_roundw;case rel=>exact HF.out.1
     case measure=>exact HF.out.2
    have c7:(op==7)=false:=beq_eq_false_iff_ne.2 o7;by_cases o2:op=2
    ·subst o2;have hv0:=own_grU HVC.out.own (Gr.alloc (Gr.refl wC) (.cells ([.slice (some ⟨a,0,none⟩) ms cs, .int .i64 y, .slice (some ⟨a,0,none⟩) ms cs, .int .i64 x]:List Value).toArray 128));have hvl:=HVC.out.own.lt;have hrx:Rd (wC.alloc (.cells ([.slice (some ⟨a,0,none⟩) ms cs, .int .i64 y, .slice (some ⟨a,0,none⟩) ms cs, .int .i64 x]:List Value).toArray 128)) 2 (some ⟨wC.heap.size,0,none⟩) 2 ([.slice (some ⟨a,0,none⟩) ms cs, .int .i64 y, .slice (some ⟨a,0,none⟩) ms cs, .int .i64 x]:List Value):=Rd.newU (W:=wC) rfl 128 ([.slice (some ⟨a,0,none⟩) ms cs, .int .i64 y, .slice (some ⟨a,0,none⟩) ms cs, .int .i64 x]:List Value) rfl;have hszC:w.heap.size<=wC.heap.size:=HVC.out.fr.size;go_wp2_with (at_builtin;refine wpList_append_rd rfl (.tmp 82) (.tmp 93) 121 rfl w.heap.size 128 i0 _ 2 32 Tryz.underlying121 hi0 hz0 hz1 hz2 rfl (by decide) _ _ _ rfl hv0 (some ⟨wC.heap.size,0,none⟩) 2 _ [.slice (some ⟨a,0,none⟩) ms cs, .int .i64 y, .slice (some ⟨a,0,none⟩) ms cs, .int .i64 x] rfl hrx (by simp[Value.oneCell']) (by unfold maxLen;omega) (by omega) (by simp;omega) ?_;intro v9 w2 hown2 hgr2 hat2);have V1:=HVC.out.gr (Gr.alloc (Gr.refl wC) (.cells ([.slice (some ⟨a,0,none⟩) ms cs, .int .i64 y, .slice (some ⟨a,0,none⟩) ms cs, .int .i64 x]:List Value).toArray 128));have R1:=V1.push (news:=[⟨.slice (some ⟨a,0,none⟩) ms cs,y⟩,⟨.slice (some ⟨a,0,none⟩) ms cs,x⟩]) (by rw[HVV.out];simp[*]) (by rw[succE_at HK.out _ (by rw[HVV.out];simp[*]),succS_at HK.out,HVV.out];simp[*]) (λz hz=>by simp only[List.mem_cons,List.not_mem_nil,or_false] at hz;rcases hz with rfl|rfl<;>exact V1.px) (by simpa [pwc] using hown2) hgr2 hat2;have HF:=Lib.hid (R1.fin (m:=2) hkn hn2 hsk2.out HMP.out HI.out.2.1 HI.out.2.2 (by rw[List.length_append];rfl) (by decide));clear hv0 hvl hgr2 hat2 hrx hown2 V1 R1;go_wp2;go_roundw;case rel=>exact HF.out.1
     case measure=>exact HF.out.2
    have c2:(op==2)=false:=beq_eq_false_iff_ne.2 o2;by_cases o3:op=3
    ·subst o3;have hv0:=own_grU HVC.out.own (Gr.alloc (Gr.refl wC) (.cells ([.slice (some ⟨a,0,none⟩) ms cs, .int .i64 x]:List Value).toArray 128));have hvl:=HVC.out.own.lt;have hrx:Rd (wC.alloc (.cells ([.slice (some ⟨a,0,none⟩) ms cs, .int .i64 x]:List Value).toArray 128)) 2 (some ⟨wC.heap.size,0,none⟩) 1 ([.slice (some ⟨a,0,none⟩) ms cs, .int .i64 x]:List Value):=Rd.newU (W:=wC) rfl 128 ([.slice (some ⟨a,0,none⟩) ms cs, .int .i64 x]:List Value) rfl;have hszC:w.heap.size<=wC.heap.size:=HVC.out.fr.size;go_wp2_with (at_builtin;refine wpList_append_rd rfl (.tmp 97) (.tmp 103) 121 rfl w.heap.size 128 i0 _ 2 32 Tryz.underlying121 hi0 hz0 hz1 hz2 rfl (by decide) _ _ _ rfl hv0 (some ⟨wC.heap.size,0,none⟩) 1 _ [.slice (some ⟨a,0,none⟩) ms cs, .int .i64 x] rfl hrx (by simp[Value.oneCell']) (by unfold maxLen;omega) (by omega) (by simp;omega) ?_;intro v9 w2 hown2 hgr2 hat2);have V1:=HVC.out.gr (Gr.alloc (Gr.refl wC) (.cells ([.slice (some ⟨a,0,none⟩) ms cs, .int .i64 x]:List Value).toArray 128));have R1:=V1.push (news:=[⟨.slice (some ⟨a,0,none⟩) ms cs,x⟩]) (by rw[HVV.out];simp[*]) (by rw[succE_at HK.out _ (by rw[HVV.out];simp[*]),succS_at HK.out,HVV.out];simp[*]) (λz hz=>by simp only[List.mem_cons,List.not_mem_nil,or_false] at hz;rcases hz with rfl<;>exact V1.px) (by simpa [pwc] using hown2) hgr2 hat2;have HF:=Lib.hid (R1.fin (m:=1) hkn hn2 hsk2.out HMP.out HI.out.2.1 HI.out.2.2 (by rw[List.length_append];rfl) (by decide));clear hv0 hvl hgr2 hat2 hrx hown2 V1 R1;go_wp2;go_roundw;case rel=>exact HF.out.1
     case measure=>exact HF.out.2
    have c3:(op==3)=false:=beq_eq_false_iff_ne.2 o3;by_cases o4:op=4
    ·subst o4;obtain ⟨-, -,hgw,hgq⟩:=HNE.out;have HSN:=Lib.hid (And.intro hgw hgq);go_upto_region 17 with (fail)
     refine wp_region_Z 13 (FrX (λz=>z=g) wC) (by kernel_rfl) ?_;have hS0:FrX (λz=>z=g) wC wC.drew:=FrX.gr (Gr.drew (Gr.refl _));refine zu 0 hS0 ?_;refine zu 1 hS0 ?_;refine zu 2 hS0 ?_ (hy:=λW hS=>by have g1:=(hS.cell (p:=⟨Bw,0,none⟩) hzwC HSN.out.1).trans e0C;go_simp<;>rfl);refine zu 3 hS0 ?_;refine zu 4 hS0 ?_ (hy:=λW hS=>by have g1:=(hS.cell (p:=⟨Bq,1,none⟩) hzqC HSN.out.2).trans q1;go_simp<;>rfl);refine zu 5 hS0 ?_;refine zu 7 hS0 ?_;refine zu 8 hS0 ?_ (hy:=λW hS=>by have g1:=(hS.cell (p:=⟨Bw,1,none⟩) hzwC HSN.out.1).trans e1C;go_simp<;>rfl);refine zu 9 hS0 ?_;refine zs 6 rfl (λK hK=>?_);go_simp;obtain ⟨U,hU⟩:∃U,U=wC.drew:=⟨_,rfl⟩
     rw[<-hU] at hS0 ⊢;have VU:=HVC.out.gr (show Gr wC U by rw[hU];exact Gr.drew (Gr.refl wC));clear hU;obtain ⟨a2,m2,hp2,hn2x⟩:=VU.px;have HPU:=Lib.hid hn2x;have hp2':=hp2;obtain ⟨c2,e2, -⟩:=hp2';injection e2 with e2a e2b e2c;injection e2a with e2a;injection e2a with e2a _ _;subst e2a;subst e2b;have HVU:=Lib.hid VU;clear VU hn2x;refine (pwith_any _ a ms x p U hp2).mono ?_;rintro e w7 ⟨s7,a7,rfl,hp7,g7,ha7⟩;have S7:FrX (λz=>z=g) wC w7:=hS0.trans (FrX.gr g7);have PX7:=HVU.out.withs hp7 HPU.out ha7;obtain ⟨c7,e7, -⟩:=hp7;subst e7;have V7:=HVU.out.gr g7;have hv7:=V7.own;have hsz7:w.heap.size<=w7.heap.size:=V7.fr.size;have HV7:=Lib.hid (And.intro V7 PX7);clear V7 PX7 hp2 ha7 g7 HPU HVU hS0;go_wp2_with fail;refine hK.out _ _ (λhnz=>?s21) (λ_=>?r21);case s21=>exact S7
     clear hK K;try simp only[Pu,Gl]
     refine zu 10 S7 ?_;refine zs 11 rfl (λK hK=>?_);go_wp2_with fail;refine hK.out _ _ (λhnz=>?s23) (λ_=>?r23);case s23=>exact S7.trans (FrX.gr (Gr.alloc (Gr.refl _) _))
     clear hK K;try simp only[Pu,Gl]
     have hv0:=own_grU hv7 (Gr.alloc (Gr.refl w7) (.cells ([.slice (some ⟨a7,0,none⟩) ms c7, .int .i64 ((k:Int)+1)]:List Value).toArray 128));have hrx:Rd (w7.alloc (.cells ([.slice (some ⟨a7,0,none⟩) ms c7, .int .i64 ((k:Int)+1)]:List Value).toArray 128)) 2 (some ⟨w7.heap.size,0,none⟩) 1 ([.slice (some ⟨a7,0,none⟩) ms c7, .int .i64 ((k:Int)+1)]:List Value):=Rd.newU (W:=w7) rfl 128 _ rfl;have S8:FrX (λz=>z=g) wC (w7.alloc (.cells ([.slice (some ⟨a7,0,none⟩) ms c7, .int .i64 ((k:Int)+1)]:List Value).toArray 128)):=S7.trans (FrX.gr (Gr.alloc (Gr.refl w7) _));refine zs 12 rfl (λK hK=>?_);refine wp_append_rd0 (.tmp 107) (.tmp 118) 121 rfl w.heap.size 128 i0 _ 2 32 Tryz.underlying121 hi0 hz0 hz1 hz2 rfl (by decide) _ T0.length _ rfl hv0 (some ⟨w7.heap.size,0,none⟩) 1 _ [.slice (some ⟨a7,0,none⟩) ms c7, .int .i64 ((k:Int)+1)] rfl hrx (by simp[Value.oneCell']) (by unfold maxLen;omega) (by omega) (by simp;omega) ?_;intro v9 w2 hown2 hgr2 hat2;have S2:FrX (λz=>z=g) wC w2:=S8.trans (FrX.grown hgr2 (λx e=>by injection e with e;exact e.symm));refine hK.out _ _ (λhnz=>?s24) (λ_=>?r24);case s24=>exact S2
     clear hK K;try simp only[Pu,Gl]
     refine zs 13 rfl (λK hK=>?_);go_wp2_with fail;refine hK.out _ _ (λhnz=>?s25) (λ_=>?r25);case s25=>exact absurd rfl hnz
     clear hK K;try simp only[Pu,Gl]
     refine wpAnyZ_done (by kernel_rfl) ?_ _;have hvl:=True.intro;have V1:=HV7.out.1.gr (Gr.alloc (Gr.refl w7) (.cells ([.slice (some ⟨a7,0,none⟩) ms c7, .int .i64 ((k:Int)+1)]:List Value).toArray 128));have R1:=V1.push (news:=[⟨.slice (some ⟨a7,0,none⟩) ms c7,(k:Int)+1⟩]) (by rw[HVV.out];simp) (by rw[succE_at HK.out _ (by rw[HVV.out];simp),succS_at HK.out,HVV.out];simp) (λz hz=>by rw[List.mem_singleton] at hz;subst hz;exact HV7.out.2.new (Gr.alloc (Gr.refl w7) _) (λ_ _ e=>e)) (by simpa [pwc] using hown2) hgr2 hat2;have HF:=Lib.hid (R1.fin (m:=1) hkn hn2 hsk2.out HMP.out HI.out.2.1 HI.out.2.2 (by rw[List.length_append];rfl) (by decide));clear hv0 hvl hgr2 hat2 hrx hown2 V1 R1 S2 S7 S8 hv7;go_wp2;go_roundw;case rel=>exact HF.out.1
     case measure=>exact HF.out.2
    have c4:(op==4)=false:=beq_eq_false_iff_ne.2 o4;by_cases o5:op=5
    ·subst o5;by_cases hp0:p=0
     ·have z1:((p:Int)==0)=true:=by rw[hp0];rfl
      have HP0:=Lib.hid hp0;clear hp0;have hv0:=own_grU HVC.out.own (Gr.alloc (Gr.refl wC) (.cells ([.slice (some ⟨a,0,none⟩) ms cs, .int .i64 ((k:Int)+1)]:List Value).toArray 128));have hvl:=HVC.out.own.lt;have hrx:Rd (wC.alloc (.cells ([.slice (some ⟨a,0,none⟩) ms cs, .int .i64 ((k:Int)+1)]:List Value).toArray 128)) 2 (some ⟨wC.heap.size,0,none⟩) 1 ([.slice (some ⟨a,0,none⟩) ms cs, .int .i64 ((k:Int)+1)]:List Value):=Rd.newU (W:=wC) rfl 128 ([.slice (some ⟨a,0,none⟩) ms cs, .int .i64 ((k:Int)+1)]:List Value) rfl;have hszC:w.heap.size<=wC.heap.size:=HVC.out.fr.size;go_wp2_with (at_builtin;refine wpList_append_rd rfl (.tmp 124) (.tmp 131) 121 rfl w.heap.size 128 i0 _ 2 32 Tryz.underlying121 hi0 hz0 hz1 hz2 rfl (by decide) _ _ _ rfl hv0 (some ⟨wC.heap.size,0,none⟩) 1 _ [.slice (some ⟨a,0,none⟩) ms cs, .int .i64 ((k:Int)+1)] rfl hrx (by simp[Value.oneCell']) (by unfold maxLen;omega) (by omega) (by simp;omega) ?_;intro v9 w2 hown2 hgr2 hat2);have V1:=HVC.out.gr (Gr.alloc (Gr.refl wC) (.cells ([.slice (some ⟨a,0,none⟩) ms cs, .int .i64 ((k:Int)+1)]:List Value).toArray 128));have R1:=V1.push (news:=[⟨.slice (some ⟨a,0,none⟩) ms cs,(k:Int)+1⟩]) (by rw[HVV.out];simp[HP0.out]) (by rw[succE_at HK.out _ (by rw[HVV.out];simp[HP0.out]),succS_at HK.out,HVV.out];simp[HP0.out]) (λz hz=>by simp only[List.mem_cons,List.not_mem_nil,or_false] at hz;rcases hz with rfl<;>exact V1.px) (by simpa [pwc] using hown2) hgr2 hat2;have HF:=Lib.hid (R1.fin (m:=1) hkn hn2 hsk2.out HMP.out HI.out.2.1 HI.out.2.2 (by rw[List.length_append];rfl) (by decide));clear hv0 hvl hgr2 hat2 hrx hown2 V1 R1;go_wp2;go_roundw;case rel=>exact HF.out.1
      case measure=>exact HF.out.2
     ·have z1:((p:Int)==0)=false:=beq_eq_false_iff_ne.2 (by omega);have HF:=Lib.hid ((HVC.out.nought (by rw[HVV.out];simp[*]) (by rw[succE_at HK.out _ (by rw[HVV.out];simp[*]),succS_at HK.out,HVV.out];simp[*])).fin (m:=0) hkn hn2 hsk2.out HMP.out HI.out.2.1 HI.out.2.2 rfl (by decide));go_wp2;go_roundw;case rel=>exact HF.out.1
      case measure=>exact HF.out.2
    have c5:(op==5)=false:=beq_eq_false_iff_ne.2 o5;by_cases o6:op=6
    ·subst o6;by_cases hpl:p=s.size
     ·have z1:((p:Int)==(s.size:Int))=true:=by rw[hpl];simp
      have HP0:=Lib.hid hpl;clear hpl;have hv0:=own_grU HVC.out.own (Gr.alloc (Gr.refl wC) (.cells ([.slice (some ⟨a,0,none⟩) ms cs, .int .i64 ((k:Int)+1)]:List Value).toArray 128));have hvl:=HVC.out.own.lt;have hrx:Rd (wC.alloc (.cells ([.slice (some ⟨a,0,none⟩) ms cs, .int .i64 ((k:Int)+1)]:List Value).toArray 128)) 2 (some ⟨wC.heap.size,0,none⟩) 1 ([.slice (some ⟨a,0,none⟩) ms cs, .int .i64 ((k:Int)+1)]:List Value):=Rd.newU (W:=wC) rfl 128 ([.slice (some ⟨a,0,none⟩) ms cs, .int .i64 ((k:Int)+1)]:List Value) rfl;have hszC:w.heap.size<=wC.heap.size:=HVC.out.fr.size;go_wp2_with (at_builtin;refine wpList_append_rd rfl (.tmp 142) (.tmp 149) 121 rfl w.heap.size 128 i0 _ 2 32 Tryz.underlying121 hi0 hz0 hz1 hz2 rfl (by decide) _ _ _ rfl hv0 (some ⟨wC.heap.size,0,none⟩) 1 _ [.slice (some ⟨a,0,none⟩) ms cs, .int .i64 ((k:Int)+1)] rfl hrx (by simp[Value.oneCell']) (by unfold maxLen;omega) (by omega) (by simp;omega) ?_;intro v9 w2 hown2 hgr2 hat2);have V1:=HVC.out.gr (Gr.alloc (Gr.refl wC) (.cells ([.slice (some ⟨a,0,none⟩) ms cs, .int .i64 ((k:Int)+1)]:List Value).toArray 128));have R1:=V1.push (news:=[⟨.slice (some ⟨a,0,none⟩) ms cs,(k:Int)+1⟩]) (by rw[HVV.out];simp[HP0.out]) (by rw[succE_at HK.out _ (by rw[HVV.out];simp[HP0.out]),succS_at HK.out,HVV.out];simp[HP0.out]) (λz hz=>by simp only[List.mem_cons,List.not_mem_nil,or_false] at hz;rcases hz with rfl<;>exact V1.px) (by simpa [pwc] using hown2) hgr2 hat2;have HF:=Lib.hid (R1.fin (m:=1) hkn hn2 hsk2.out HMP.out HI.out.2.1 HI.out.2.2 (by rw[List.length_append];rfl) (by decide));clear hv0 hvl hgr2 hat2 hrx hown2 V1 R1;go_wp2;go_roundw;case rel=>exact HF.out.1
      case measure=>exact HF.out.2
     ·have z1:((p:Int)==(s.size:Int))=false:=beq_eq_false_iff_ne.2 (by omega);have HF:=Lib.hid ((HVC.out.nought (by rw[HVV.out];simp[*]) (by rw[succE_at HK.out _ (by rw[HVV.out];simp[*]),succS_at HK.out,HVV.out];simp[*])).fin (m:=0) hkn hn2 hsk2.out HMP.out HI.out.2.1 HI.out.2.2 rfl (by decide));go_wp2;go_roundw;case rel=>exact HF.out.1
      case measure=>exact HF.out.2
    have c6:(op==6)=false:=beq_eq_false_iff_ne.2 o6;have HF:=Lib.hid ((HVC.out.nought (by rw[HVV.out];simp[*]) (by rw[succE_at HK.out _ (by rw[HVV.out];simp[*]),succS_at HK.out,HVV.out];simp[*])).fin (m:=0) hkn hn2 hsk2.out HMP.out HI.out.2.1 HI.out.2.2 rfl (by decide));go_wp2;go_roundw;case rel=>exact HF.out.1
    case measure=>exact HF.out.2
   ·rw[hsk] at HLK;have HNR:Hid (InR code (k:Int)->S' (k:Int)=true):=Lib.hid λ_=>hsk;clear hsk;refine region_R (by kernel_rfl) (by kernel_rfl) ?_;refine rv ?_;refine rv ?_ (h:=λW hW=>by have g1:=bc hW hzw e1;go_light;go_simp<;>rfl);(iterate 3 refine rv ?_);refine rv ?_ (h:=λW hW=>by have g1:=bc hW hzw e1;go_light;go_simp<;>rfl);(iterate 4 refine rv ?_);refine rv ?_ (h:=λW hW=>by have g1:=bc hW hhw k1b;go_light;go_simp<;>rfl);(iterate 7 refine rv ?_);refine rv ?_ (h:=λW hW=>by have g1:=bc hW hhl lB;go_light;go_simp<;>rfl);refine rv ?_;refine rv ?_ (h:=λW hW=>by have g1:=bc hW hzw e1;go_light;go_simp<;>rfl);refine rv ?_ (h:=λW hW=>by have g1:=HLK.out W hW;go_light;go_simp<;>rfl);refine rv ?_;refine r_nil ?_;intro w8 hw8;have HSS:=Lib.hid (HSK.out w8 hw8 HNR.out);clear hw8;go_wp2;go_roundw;case rel=>exact HSS.out.1
    case measure=>exact HSS.out.2
end
section
open Go.RowKit Go.Maps
def SelB (code:List In) (t:List UInt8) (p k:Nat):Prop:=∃(hk:k<code.length) (hp:p<t.length),code[k].op=1/\hasS code[k].ps (t[p].toNat:Int)=true
theorem unseenP_none (n:Nat):unseenP (λ_=>false) n=n:=by
 unfold unseenP;have:(List.range n).filter (λ_:Nat=> !false)=List.range n:=List.filter_eq_self.2 (λ_ _=>rfl);exact (congrArg List.length this).trans (List.length_range)
theorem LsM.made (w:World):LsM w.heap.size (w.heap.size+1) w.heap.size 0 ((w.alloc (.map #[] 0)).alloc (.cells #[.slice none 0 0, .map (some w.heap.size)] 123)) (.slice none 0 0) [] (λ_=>false):=by
 refine ⟨by go_simp,by go_simp,by go_simp,by simp,by omega,(MpB.made w).gr (Gr.alloc (Gr.refl _) _),World.ownsRow_nil _ _ _ _,⟨by simp[Value.ownBlock],by simp[Value.ownBlock]⟩,λx hx=>(by cases hx),Nat.le_refl _⟩
structure StI (n:Nat) (code:List In) (t:List UInt8) (p:Nat) (Q:Int->Prop) (Wn:List Nat) (w0:World) (j:Nat) (wr:World) (v':Value) (W':List Pw) (Wn':List Nat) (S':Int->Bool) (nB':Nat):Prop where
 gr:Gr w0 wr
 ls:LsM w0.heap.size (w0.heap.size+1) w0.heap.size nB' wr v' W' S'
 wn:W'.map (·.pc)=Wn'.map (λk:Nat=>(k:Int))
 law:PkA code t (p+1) Q S' Wn' []
 nb:nB'+unseenP S' n=n
 ov:∀k,v'.ownBlock=some k->w0.heap.size<=k
 all:∀i,i<j->∀k,Wn[i]?=some k->(∀hk:k<code.length,code[k].op≠7)/\(SelB code t p k->InR code ((k:Int)+1)->S' ((k:Int)+1)=true)
def StR (n:Nat) (code:List In) (t:List UInt8) (p:Nat) (Q:Int->Prop) (Wn:List Nat) (w0:World) (j:Nat) (wr:World):Prop:=∃v' W' Wn' S' nB',StI n code t p Q Wn w0 j wr v' W' Wn' S' nB'
theorem StR.start (n:Nat) (code:List In) (t:List UInt8) (p:Nat) (Q:Int->Prop) (Wn:List Nat) (w:World):StR n code t p Q Wn w 0 ((w.alloc (.map #[] 0)).alloc (.cells #[.slice none 0 0, .map (some w.heap.size)] 123)):=
 ⟨_,_,[],_,0,Gr.alloc (Gr.alloc (Gr.refl w) _) _,LsM.made w,rfl,PkA.none code t (p+1) Q,by rw[unseenP_none];omega,λk hk=>(by cases hk),λi hi=>absurd hi (Nat.not_lt_zero _)⟩
section
variable {n:Nat} {code:List In} {t:List UInt8} {p:Nat} {Q:Int->Prop} {Wn:List Nat} {w0:World} {j:Nat} {wr:World} {v':Value} {W':List Pw} {Wn':List Nat} {S':Int->Bool} {nB':Nat}
theorem StI.go {w2:World} (h:StI n code t p Q Wn w0 j wr v' W' Wn' S' nB') (g:Gr wr w2):StI n code t p Q Wn w0 j w2 v' W' Wn' S' nB':=
 ⟨h.gr.trans g,h.ls.gr g,h.wn,h.law,h.nb,h.ov,h.all⟩
theorem StI.skip {w2:World} (h:StI n code t p Q Wn w0 j wr v' W' Wn' S' nB') (g:Gr wr w2) {k:Nat} (hk:Wn[j]?=some k) (h7:∀hk:k<code.length,code[k].op≠7) (hs:¬SelB code t p k):StR n code t p Q Wn w0 (j+1) w2:=by
 refine ⟨v',W',Wn',S',nB',h.gr.trans g,h.ls.gr g,h.wn,h.law,h.nb,h.ov,λi hi k' hk'=>?_⟩;rcases Nat.lt_succ_iff_lt_or_eq.1 hi with h1|h1
 ·exact h.all i h1 k' hk'
 ·subst h1;rw[hk] at hk';injection hk' with hk';subst hk';exact ⟨h7,λe=>absurd e hs⟩
theorem StI.added {w1 w2:World} (h:StI n code t p Q Wn w0 j wr v' W' Wn' S' nB') (g:Gr wr w1) {k:Nat} {e:Ending} (hk:Wn[j]?=some k) (h7:∀hk:k<code.length,code[k].op≠7)
  (r:RetAd w0.heap.size (w0.heap.size+1) w0.heap.size nB' n code t (p+1) Q w1 v' S' ((k:Int)+1) e w2):StR n code t p Q Wn w0 (j+1) w2:=by
 obtain ⟨-,v2,W2,Wn2,S2,nB2,L,hwn,law,hin,hmo,f,ho,hnb⟩:=r;have g1:=h.gr.trans g;refine ⟨v2,W2,Wn2,S2,nB2,f.below g1 (λx hx=>?_),L,hwn,law,by rw[hnb];exact h.nb,λx hx=>?_,λi hi k' hk'=>?_⟩
 ·rcases hx with e|e|e
  ·omega
  ·omega
  ·exact h.ov x e.symm
 ·rcases ho with e|⟨y,e,hy⟩
  ·exact h.ov x (by rw[<-e];exact hx)
  ·rw[e] at hx;injection hx with hx;subst hx;exact Nat.le_trans g1.size hy
 ·rcases Nat.lt_succ_iff_lt_or_eq.1 hi with h1|h1
  ·exact ⟨(h.all i h1 k' hk').1,λhs hi'=>hmo _ ((h.all i h1 k' hk').2 hs hi')⟩
  ·subst h1;rw[hk] at hk';injection hk' with hk';subst hk';exact ⟨h7,λ_ hi'=>hin hi'⟩
end
def RetSt (n:Nat) (code:List In) (t:List UInt8) (p:Nat) (Q:Int->Prop) (Wn:List Nat) (w:World) (e:Ending) (w':World):Prop:=
 ∃pv met v' W' Wn' S' nB' j,e= .returned (.tuple #[.pointer (some ⟨w.heap.size+1,0,none⟩),pv, .bool met])/\StI n code t p Q Wn w j w' v' W' Wn' S' nB'/\
  (met=true->(∃k∈Wn,∃hk:k<code.length,code[k].op=7)/\∃a m,Plc w' pv a m)/\(met=false->j=Wn.length)
theorem RetSt.met {n:Nat} {code:List In} {t:List UInt8} {p:Nat} {Q:Int->Prop} {Wn:List Nat} {w w':World} {j:Nat} (h:StR n code t p Q Wn w j w') {k:Nat} (hk:k∈Wn) (hkl:k<code.length) (h7:code[k].op=7) {pv:Value} {a m:Nat} (hp:Plc w' pv a m) :
  RetSt n code t p Q Wn w (.returned (.tuple #[.pointer (some ⟨w.heap.size+1,0,none⟩),pv, .bool true])) w':=by
 obtain ⟨v',W',Wn',S',nB',h⟩:=h;exact ⟨pv,true,v',W',Wn',S',nB',j,rfl,h,λ_=>⟨⟨k,hk,hkl,h7⟩,a,m,hp⟩,λe=>(by cases e)⟩
theorem RetSt.none {n:Nat} {code:List In} {t:List UInt8} {p:Nat} {Q:Int->Prop} {Wn:List Nat} {w w':World} (h:StR n code t p Q Wn w Wn.length w') :
  RetSt n code t p Q Wn w (.returned (.tuple #[.pointer (some ⟨w.heap.size+1,0,Option.none⟩), .slice Option.none 0 0, .bool false])) w':=by
 obtain ⟨v',W',Wn',S',nB',h⟩:=h;exact ⟨_,false,v',W',Wn',S',nB',_,rfl,h,λe=>(by cases e),λ_=>rfl⟩
theorem way_cells {w:World} {b0:Nat} {v:Value} {W:List Pw} (h:w.ownsRow b0 128 2 v W.length (pwc W)) {j:Nat} (hj:j<W.length) :
  ∃g c,v= .slice (some ⟨g,0,Option.none⟩) W.length c/\W.length<=c/\c<=maxLen/\g<w.heap.size/\w.cell? ⟨g,j*2,Option.none⟩=some W[j].sv/\w.cell? ⟨g,j*2+1,Option.none⟩=some (.int .i64 W[j].pc):=by
 obtain ⟨A,c,hv⟩:=own_form h;subst hv;obtain ⟨g,rfl, -,hg,hc⟩:=own_blockU h (by omega);obtain ⟨h1,h2⟩:=own_cap' h;have k:∀i,i<2->(pwc W)[j*2+i]?=(pwc [W[j]])[i]?:=λi hi=>by
  have e:W=W.take j++W[j]::W.drop (j+1):=by rw[List.getElem_cons_drop,List.take_append_drop]
  have hl:(pwc (W.take j)).length=j*2:=by rw[pwc_length,List.length_take];omega
  conv=>lhs;rw[e]
  rw[pwc_append,List.getElem?_append_right (by omega),hl,show j*2+i-j*2=i by omega,pwc_cons];rcases i with _|_|i
  ·rfl
  ·rfl
  ·omega
 exact ⟨g,c,rfl,h1,h2,hg,hc _ _ (k 0 (by omega)),hc _ _ (k 1 (by omega))⟩
end
section
open Go.RowKit Go.Maps
theorem step_any (b0 hw hl B nB n cA G:Nat) (A:Option Addr) (code:List In) (s:ByteArray) (p:Nat) (Q:Int->Prop) (w:World) (v:Value) (W:List Pw) (Wn:List Nat) (S:Int->Bool)
  (hn:n=code.length) (hn2:n<=2000) (hps:∀v∈code,v.ps.length<=100000) (hs:(s.size:Int)<=4096) (hp:p<=s.size) (k0:w.cell? ⟨hw,0,none⟩=some (.int .i64 G)) (k1:w.cell? ⟨hw,1,none⟩=some (.slice A n cA)) (k2:w.cell? ⟨hw,2,none⟩=some (.string s)) (hr:Ri w A code)
  (hL:LsM b0 hl B nB w v W S) (hW:W.map (·.pc)=Wn.map (λk:Nat=>(k:Int))) (hWo:∀k∈Wn,∃h:k<code.length,code[k].op=1\/code[k].op=7) (hnB:nB<=4000) (hQ0:∀k∈Wn,SelB code s.data.toList p k->Q ((k:Int)+1)) (hQ:∀(k:Nat) x,Q k->x∈succE code s.data.toList k (p+1)->Q x) :
  Calls Tryz.prog 56 #[.pointer (some ⟨hw,0,none⟩), .pointer (some ⟨hl,0,none⟩), .int .i64 p] w (RetSt n code s.data.toList p Q Wn w):=by
 obtain ⟨A0,c0,hv⟩:=own_form hL.own;subst hv;obtain ⟨wS,hwS⟩:∃wS,wS=(w.alloc (.map #[] 0)).alloc (.cells #[.slice none 0 0, .map (some w.heap.size)] 123):=⟨_,rfl⟩
 have gS:Gr w wS:=by rw[hwS];exact Gr.alloc (Gr.alloc (Gr.refl w) _) _
 have R0:StR n code s.data.toList p Q Wn w 0 wS:=by rw[hwS];exact StR.start n code s.data.toList p Q Wn w
 have HwS:=Lib.hid hwS;have hlz:=hL.hz;have l0:=bc gS hlz hL.c0;have hWl:W.length<=4000:=Nat.le_trans hL.wl hnB;have hWli:(W.length:Int)<=4000:=by omega
 have hlen:W.length=Wn.length:=by have:=congrArg List.length hW;simpa using this
 have hw0:hw<w.heap.size:=World.block_lt_of_cell? _ _ k1;have hpi:(p:Int)<=(s.size:Int):=by omega
 have HL:=Lib.hid hL;have HR:=Lib.hid hr;have HCC:=Lib.hid (And.intro hn hlen);have HWW:=Lib.hid (And.intro hW hWo);have HPS:=Lib.hid hps;have HQ:=Lib.hid (And.intro hQ0 hQ);have HK:=Lib.hid (And.intro k0 (And.intro k1 k2));have HR0:=Lib.hid R0;have HGS:=Lib.hid gS;clear hwS gS R0 hL hr hn hW hWo hps hQ0 hQ k0 k1 k2 hlen hnB;have hmm:= @run_makeMap Tryz.prog;go_enter Tryz.func56,Tryz.ntmps56;go_upto_region 2 with (fail)
 rw[<-HwS.out];clear HwS hmm;go_wp2
 go_loopw [21] (λi wr=>∃j:Nat,j<=W.length/\i= .int .i64 j/\StR n code s.data.toList p Q Wn w j wr) (λi _=>W.length-(intOf i).toNat)
 case atStart=>exact ⟨0,Nat.zero_le _,rfl,HR0.out⟩
 case round=>
  obtain ⟨j,hj,rfl,hR⟩:=hrel;clear l0;by_cases hlt:j<W.length
  ·have hji:(j:Int)<(W.length:Int):=by omega
   obtain ⟨v',W',Wn',S',nB',hI⟩:=hR;obtain ⟨g,cv,hv,hcl,hcm,hgz,t0,t1⟩:=way_cells (own_grU HL.out.own hI.gr) hlt;injection hv with hv1 hv2 hv3;subst hv1;subst hv3;have hcli:(W.length:Int)<=(c0:Int):=by omega
   have hcmi:(c0:Int)<=9223372036854775807:=by unfold maxLen at hcm;omega
   have hjn:Wn[j]?=some (Wn[j]'(by rw[<-HCC.out.2];exact hlt)):=List.getElem?_eq_getElem _;have hpc:W[j].pc=((Wn[j]'(by rw[<-HCC.out.2];exact hlt):Nat):Int):=by
    have h1:=congrArg (λl=>l[j]?) HWW.out.1;simp only[List.getElem?_map,List.getElem?_eq_getElem hlt,hjn,Option.map_some] at h1;injection h1
   have hkm:Wn[j]'(by rw[<-HCC.out.2];exact hlt)∈Wn:=List.getElem_mem _;have hpl:=HL.out.pl W[j] (List.getElem_mem hlt);rw[hpc] at t1;generalize Wn[j]'(by rw[<-HCC.out.2];exact hlt)=k at t1 hjn hkm hpc;obtain ⟨hkl,hop⟩:=HWW.out.2 k hkm;have hkn:k<n:=by rw[HCC.out.1];exact hkl
   have hkni:(k:Int)<(n:Int):=by omega
   obtain ⟨a,ms,⟨cs,hsv,hm0,hm3,haz,hac⟩,hex⟩:=hpl;have HPX:Hid (PlX (λx=>x=hl\/x=B\/some x=(Value.slice (some ⟨g,0,none⟩) W.length c0).ownBlock) w W[j].sv):=Lib.hid ⟨a,ms,⟨cs,hsv,hm0,hm3,haz,hac⟩,hex⟩;have HPL:=Lib.hid (show Plc w (.slice (some ⟨a,0,none⟩) ms cs) a ms from ⟨cs,rfl,hm0,hm3,haz,hac⟩);rw[hsv] at t0 HPX;have HKM:=Lib.hid hkm;have HJN:=Lib.hid hjn;have HI:=Lib.hid hI;have HKL:=Lib.hid hkl;have hwr:hw<wr.heap.size:=Nat.lt_of_lt_of_le hw0 hI.gr.size;clear hcl hcm hgz hjn hkm hpc hac hm0 hm3 haz hsv hex hv2 hI;go_upto_region 5 with (fail)
   obtain ⟨wB,hwB⟩:∃wB,wB=wr.alloc (.cells #[.slice (some ⟨a,0,none⟩) ms cs, .int .i64 (k:Nat)] 128):=⟨_,rfl⟩
   have gB:Gr wr wB:=by rw[hwB];exact Gr.alloc (Gr.refl wr) _
   have e0:wB.cell? ⟨wr.heap.size,0,none⟩=some (.slice (some ⟨a,0,none⟩) ms cs):=by rw[hwB];go_simp
   have e1:wB.cell? ⟨wr.heap.size,1,none⟩=some (.int .i64 (k:Nat)):=by rw[hwB];go_simp
   have hzwB:wr.heap.size<wB.heap.size:=by rw[hwB];simp
   rw[<-hwB];clear hwB t0 t1;have g0B:=HI.out.gr.trans gB;have k1B:=bc g0B hw0 HK.out.2.1;have hhwB:hw<wB.heap.size:=Nat.lt_of_lt_of_le hw0 g0B.size;obtain ⟨ad,hA,hadlt,d0,d1,d2,d3⟩:=Ri.at (HR.out.gr g0B) HKL.out;have HAB:Hid (ad.block<w.heap.size):=Lib.hid (by obtain ⟨ad',e,hb, -⟩:=HR.out.2 (by rw[<-HCC.out.1];omega);rw[hA] at e;injection e with e;rw[e];exact hb);subst hA;obtain ⟨vi,hvi⟩:∃vi,vi=code[k]'HKL.out:=⟨_,rfl⟩
   have hop':=hop;rw[<-hvi] at d0 d1 d2 d3 hop';obtain ⟨op,x,y,ps⟩:=vi;simp only at d0 d1 d2 d3 hop';have HVV:=Lib.hid hvi.symm;have HGB:=Lib.hid gB;generalize wr.heap.size=Bw at e0 e1 hzwB ⊢;clear hvi g0B hop gB;refine wp_region_Z 10 (λW=>Gr wB W) (by kernel_rfl) ?_;have hS0:Gr wB wB.drew:=Gr.drew (Gr.refl _);refine zu 0 hS0 ?_;refine zu 1 hS0 ?_;refine zu 2 hS0 ?_;refine zu 3 hS0 ?_;refine zu 4 hS0 ?_ (hy:=λW hS=>by have g1:=bc hS hhwB k1B;go_simp<;>rfl);refine zu 5 hS0 ?_;refine zu 6 hS0 ?_ (hy:=λW hS=>by have g1:=bc hS hzwB e1;go_simp<;>rfl);refine zu 7 hS0 ?_;refine zu 8 hS0 ?_ (hy:=λW hS=>by have g0:=(Below.cell hS (p:=ad.add (k*4)) (by rw[add_blk];exact hadlt)).trans d0;have g1:=bc hS (by rw[add_blk];exact hadlt) d1;have g2:=bc hS (by rw[add_blk];exact hadlt) d2;have g3:=bc hS (by rw[add_blk];exact hadlt) d3;go_simp<;>rfl);refine zs 9 rfl (λK hK=>?_);go_wp2_with fail;refine hK.out _ _ (λhnz=>?s10) (λ_=>?r10);case s10=>exact Gr.alloc hS0 _
   clear hK K;try simp only[Pu,Gl]
   refine zs 10 rfl (λK hK=>?_);go_wp2_with fail;refine hK.out _ _ (λhnz=>?s11) (λ_=>?r11);case s11=>exact absurd rfl hnz
   clear hK K;try simp only[Pu,Gl]
   refine wpAnyZ_done (by kernel_rfl) ?_ _;obtain ⟨wC,hwC⟩:∃wC,wC=(wB.alloc (.cells #[.int .i64 op, .int .i64 x, .int .i64 y, .string ⟨ps.toArray⟩] 163)).drew:=⟨_,rfl⟩
   have gC:Gr wB wC:=by rw[hwC];exact Gr.drew (Gr.alloc (Gr.refl wB) _)
   have q0:wC.cell? ⟨wB.heap.size,0,none⟩=some (.int .i64 op):=by rw[hwC];go_simp
   have q3:wC.cell? ⟨wB.heap.size,3,none⟩=some (.string ⟨ps.toArray⟩):=by rw[hwC];go_simp
   have hzqC:wB.heap.size<wC.heap.size:=by rw[hwC];simp
   rw[<-hwC];clear hwC hS0 d0 d1 d2 d3 hadlt;have e0C:=bc gC hzwB e0;have e1C:=bc gC hzwB e1;have hzwC:Bw<wC.heap.size:=Nat.lt_of_lt_of_le hzwB gC.size;have HGC:=Lib.hid (HGB.out.trans gC);have hhwC:hw<wC.heap.size:=Nat.lt_of_lt_of_le hhwB gC.size;have k2C:=bc (HI.out.gr.trans HGC.out) hw0 HK.out.2.2;generalize wB.heap.size=Bq at q0 q3 hzqC ⊢;clear gC e0 e1 hzwB hhwB k1B HGB;by_cases o7:op=7
   ·subst o7;have HRT:Hid (∀W2,Gr wC W2->RetSt n code s.data.toList p Q Wn w (.returned (.tuple #[.pointer (some ⟨w.heap.size+1,0,none⟩), .slice (some ⟨a,0,none⟩) ms cs, .bool true])) W2):=Lib.hid λW2 g2=>
     RetSt.met (j:=j) ⟨v',W',Wn',S',nB',HI.out.go (HGC.out.trans g2)⟩ HKM.out HKL.out (by rw[HVV.out]) (HPL.out.gr ((HI.out.gr.trans HGC.out).trans g2))
    clear hop';go_upto_region 7 with (fail)
    refine region_Q (by kernel_rfl) (by kernel_rfl) ?_;(iterate 3 refine qv ?_);refine qv ?_ (h:=λW hW=>by have g1:=bc hW hzwC e0C;go_simp<;>rfl);(iterate 3 refine qv ?_);refine wpQuiet_nil ?_;intro w9 hw9;have HF:=Lib.hid (HRT.out w9 hw9);clear hw9;go_wp2
    go_ret3
    exact HF.out
   have o1:op=1:=by omega
   subst o1;clear hop' o7;have HN7:Hid (∀hk:k<code.length,code[k].op≠7):=Lib.hid λhk=>by rw[HVV.out];exact (by decide:(1:Int)≠7)
   by_cases hps2:p<s.size
   ·have n1:decide ((p:Int)<(s.size:Int))=true:=decide_eq_true (by omega);have hpi2:(p:Int)<(s.size:Int):=by omega
    obtain ⟨hb,hhb⟩:∃hb,hb=hasS ps (s[p].toNat:Int):=⟨_,rfl⟩
    have HHC:=λW=>has_any ⟨ps.toArray⟩ (by have:=HPS.out _ (List.getElem_mem HKL.out);rw[HVV.out] at this;simp only at this;show ((ps.toArray.size:Nat):Int)<=_;rw[List.size_toArray];omega) (s[p].toNat:Int) W;rw[show (⟨ps.toArray⟩:ByteArray).data.toList=ps from rfl,<-hhb] at HHC;have HHC:∀W,Calls Tryz.prog 90 #[.string ⟨ps.toArray⟩, .int .u8 (s[p].toNat:Int)] W (λe w'=>e= .returned (.bool hb)/\Gr W w'):=λW=>(HHC W).mono λe w' h=>⟨h.1,by rw[<-h.2];exact Gr.refl _⟩
    have HHH:Hid (∀W,Calls Tryz.prog 90 #[.string ⟨ps.toArray⟩, .int .u8 (s[p].toNat:Int)] W (λe w'=>e= .returned (.bool hb)/\Gr W w')):=Lib.hid HHC;have HHB:=Lib.hid hhb;clear hhb HHC;go_upto_region 8 with (fail)
    refine region_R (by kernel_rfl) (by kernel_rfl) ?_;(iterate 4 refine rv ?_);refine rv ?_ (h:=λW hW=>by have g1:=bc hW hhwC k2C;go_light;go_simp<;>rfl);(iterate 4 refine rv ?_);refine rv ?_ (h:=λW hW=>by have g1:=bc hW hzqC q3;go_light;go_simp<;>rfl);(iterate 3 refine rv ?_);refine rv ?_ (h:=λW hW=>by have g1:=bc hW hhwC k2C;go_light;go_simp<;>rfl);(iterate 2 refine rv ?_);refine rc (.bool hb) (λW hW=>HHH.out W) ?_;refine rv ?_;refine r_nil ?_;intro w8 hw8;have HG8:=Lib.hid (HGC.out.trans hw8);have e0D:=bc hw8 hzwC e0C;have e1D:=bc hw8 hzwC e1C;clear e0C e1C hw8 q0 q3 k2C HHH;cases hb with
    | true=>
     have HSEL:Hid (SelB code s.data.toList p k):=Lib.hid ⟨HKL.out,by simpa using hps2,by rw[HVV.out],by
      rw[HVV.out];exact HHB.out.symm⟩
     have HI8:=Lib.hid (HI.out.go HG8.out);have HGX:=HG8;clear HG8;have HG8:=Lib.hid HI8.out.gr;have HAD:=Lib.hid (padds_any w.heap.size hw (w.heap.size+1) w.heap.size nB' n cA G (some ad) code s (p+1) Q (.slice (some ⟨a,0,none⟩) ms cs) ((k:Int)+1) w8 v' W' Wn' S'
      HCC.out.1 hn2 (by have:=HI8.out.nb;omega) hs (by omega) ((bc HG8.out hw0 HK.out.1)) ((bc HG8.out hw0 HK.out.2.1)) ((bc HG8.out hw0 HK.out.2.2)) (HR.out.gr HG8.out)
      (λe=>by rcases e with e|e|e;omega;omega;have:=HI8.out.ov _ e.symm;omega) (λ_ ad' e' e=>by injection e' with e';subst e';have h1:=HAB.out;rcases e with e|e|e;omega;omega;have:=HI8.out.ov _ e.symm;omega)
      HI8.out.ls HG8.out.size (PlX.new HPX.out HG8.out (λx hx e=>by rcases e with e|e|e;omega;omega;have:=HI8.out.ov _ e.symm;omega)) HI8.out.wn HI8.out.law (HQ.out.1 k HKM.out HSEL.out) HQ.out.2)
     go_wp2_with (go_at_call 55;refine HAD.out.mono ?_;rintro e w2 r;obtain ⟨rfl, -⟩:=id r;have HF:=Lib.hid (HI.out.added HGX.out HJN.out HN7.out r);clear r);go_roundw;case rel=>exact ⟨j+1,by omega,by go_num,HF.out⟩
     case measure=>simp[intOf];omega
    | false=>
     have HF:=Lib.hid (HI.out.skip HG8.out HJN.out HN7.out (by
      rintro ⟨hk,hp',h1,h2⟩;rw[HVV.out] at h2;exact absurd (HHB.out.trans h2) (by decide)))
     go_wp2;go_roundw;case rel=>exact ⟨j+1,by omega,by go_num,HF.out⟩
     case measure=>simp[intOf];omega
   ·have n1:decide ((p:Int)<(s.size:Int))=false:=decide_eq_false (by omega);go_upto_region 8 with (fail)
    refine region_R (by kernel_rfl) (by kernel_rfl) ?_;(iterate 4 refine rv ?_);refine rv ?_ (h:=λW hW=>by have g1:=bc hW hhwC k2C;go_light;go_simp<;>rfl);(iterate 3 refine rv ?_);(iterate 9 refine rs ?_);refine rv ?_;refine r_nil ?_;intro w8 hw8;have HF:=Lib.hid (HI.out.skip (HGC.out.trans hw8) HJN.out HN7.out (by
     rintro ⟨hk,hp',h1,h2⟩;exact hps2 (by simpa using hp')))
    clear hw8;go_wp2;go_roundw;case rel=>exact ⟨j+1,by omega,by go_num,HF.out⟩
    case measure=>simp[intOf];omega
  ·have hje:j=W.length:=by omega
   rw[hje,HCC.out.2] at hR;have HF:=Lib.hid (RetSt.none hR);clear hR;have hjw:¬(j:Int)<(W.length:Int):=by omega
   clear hje;go_wp2
   go_ret3
   exact HF.out
end
end Go.Proofs.YtjapddfnpmlifaaGreatDoor
