import Derived.Test.YtoncapkmaeghfaaGreatRunLtCra
import Derived.Test.YtoncapkmaeghfaaGreatRunLtTor
import Derived.Test.YtoncapkmaeghfaaGreatRunWiAln
import Derived.Test.YtoncapkmaeghfaaGreatRunFxBase
import Derived.Test.YtoncapkmaeghfaaGreatRunFxWalk
import Derived.Lib.Hide
import Derived.BigQuiet
import Derived.Test.YtoncapkmaeghfaaGreatRunRwInf
import Derived.Test.YtoncapkmaeghfaaGreatRunWiHdr
import Derived.Test.YtoncapkmaeghfaaGreatRunWiFet
import Derived.Test.YtoncapkmaeghfaaGreatRunVfFs
set_option linter.all false
set_option maxRecDepth 1000000
set_option maxHeartbeats 12800000
namespace Go.Proofs.YtoncapkmaeghfaaGreat
open Go.RowKit
theorem info_pts:(Tryz.prog.info? 38).map (fun i=>(i.zero,i.size,i.bytes))=some (some (.slice none 0 0),1,24):=by kernel_rfl
def rgC (m:Arcs) (D:List UInt8) (L:List (Option Addr×Nat)):List Value:=L.mapIdx fun k p=> .slice p.1 (ringS m D k).length p.2
theorem rgC_snoc (m:Arcs) (D:List UInt8) (L:List (Option Addr×Nat)) (p:Option Addr×Nat):rgC m D (L++[p])=rgC m D L++[.slice p.1 (ringS m D L.length).length p.2]:=by simp[rgC,List.mapIdx_append]
theorem rgC_at (m:Arcs) (D:List UInt8) (L:List (Option Addr×Nat)) (k:Nat) (h:k<L.length):(rgC m D L)[k]?=some (.slice L[k].1 (ringS m D k).length L[k].2):=by simp[rgC,List.getElem?_mapIdx,h]
theorem ringS_len (m:Arcs) (D:List UInt8) (i:Nat):(ringS m D i).length=cntS m i:=by simp[ringS]
theorem ringS_at (m:Arcs) (D:List UInt8) (i k:Nat) (h:k<(ringS m D i).length):(ringS m D i)[k]=(decT (slotS D (offS m i+12*k)),decN (slotS D (offS m i+12*k))):=by simp[ringS]
structure RgM (m:Arcs) (D:List UInt8) (w:World) (b0 b1:Nat) (A:Option Addr) (L:List (Option Addr×Nat)):Prop where
 len:L.length=m.length
 rd:Rd w 1 A m.length (rgC m D L)
 ri:∀k (h:k<L.length),Ri w L[k].1 (ringS m D k)
 fa:∀ad,A=some ad→b0≤ad.block∧ad.block<b1
 fl:∀k (h:k<L.length) ad,L[k].1=some ad→b0≤ad.block∧ad.block<b1
theorem Ri.kpR {w w':World} {A:Option Addr} {l:List (Int×Int)} {S:Nat→Prop} (h:Ri w A l) (k:Kp S w w') (hS:∀ad,A=some ad→¬S ad.block):Ri w' A l:=fun h0=>by
 obtain ⟨ad,e,hb,hc⟩:=h h0
 have hbk:∀z,(ad.add z).block<w.heap.size:=fun z=>by rw[adB];exact hb
 have hnk:∀z,¬S (ad.add z).block:=fun z=>by rw[adB];exact hS ad e
 exact ⟨ad,e,Nat.lt_of_lt_of_le hb k.size,fun j hj=>⟨(k.cell (a:=ad.add (j*2)) (hbk _) (hnk _)).trans (hc j hj).1,(k.cell (a:=⟨(ad.add (j*2)).block,(ad.add (j*2)).off+1,none⟩) (hbk _) (hnk _)).trans (hc j hj).2⟩⟩
theorem RgM.kp {m:Arcs} {D:List UInt8} {w w':World} {b0 b1:Nat} {A:Option Addr} {L:List (Option Addr×Nat)} {S:Nat→Prop} (h:RgM m D w b0 b1 A L) (k:Kp S w w') (hS:∀q,b0≤q→q<b1→¬S q):RgM m D w' b0 b1 A L:=
 ⟨h.len,k.rd h.rd (fun _ ad e=>hS _ (h.fa ad e).1 (h.fa ad e).2),fun q hq=>Ri.kpR (h.ri q hq) k (fun ad e=>hS _ (h.fl q hq ad e).1 (h.fl q hq ad e).2),h.fa,h.fl⟩
theorem RgM.gr {m:Arcs} {D:List UInt8} {w w':World} {b0 b1:Nat} {A:Option Addr} {L:List (Option Addr×Nat)} (h:RgM m D w b0 b1 A L) (g:Gr w w'):RgM m D w' b0 b1 A L:=h.kp (Kp.of_gr (fun _=>False) g) (fun _ _ _ e=>e)
def RetRn (m:Arcs) (D:List UInt8) (w:World) (e:Ending) (w':World):Prop:=Gr w w'∧∃A c L,e= .returned (.slice A m.length c)∧RgM m D w' w.heap.size w'.heap.size A L
theorem rings_any {Y:Nat→Prop} {X:Nat} {R:Option Nat} {n:Nat} {room:Int} (ag xf:Nat) (A:Option Addr) (c:Nat) (m:Arcs) (D:List UInt8) (hM:mayH ag xf (ints m)=true) (hD:HdOk ag xf m D) (hsz:(D.length:Int)≤1073741824) (w:World) (h:RsM Y w X R room n (some D)):Calls Tryz.prog 22 #[.pointer (some ⟨X,0,none⟩), .agg #[.int .i64 ag, .int .i64 xf, .slice A m.length c]] w (RetRn m D w):=by
 obtain ⟨i0,hi,hz0,hz1,hz2⟩:=info_parts info_pts
 have hm8:=(MayF.ofH hM).l8
 have hop:=opS_hdr hM hD
 have HRI:Hid (∀W q,q<m.length→Gr w W→Calls Tryz.prog 39 #[.pointer (some ⟨X,0,none⟩), .string ⟨#[97]⟩, .int .i64 (q:Int)] W (RetRh m D q W)):=Lib.hid (fun W q hq g=>by
  have:=xring_row hsz hop q hq W (h.gr g)
  rw[show (⟨#[97]⟩:ByteArray)=nmA by kernel_rfl]
  exact this)
 obtain ⟨V,hV⟩:∃V,V=w.alloc (.cells #[.int .i64 ag, .int .i64 xf, .slice A m.length c] 24):=⟨_,rfl⟩
 have gV:Gr w V:=by rw[hV];exact Gr.alloc (Gr.refl w) _
 have hz0':w.heap.size<V.heap.size:=by rw[hV];simp
 have c2:V.cell? ⟨w.heap.size,2,none⟩=some (.slice A m.length c):=by rw[hV];go_simp
 have HV:=Lib.hid hV
 have HGV:=Lib.hid gV
 have hmi:(m.length:Int)≤8:=by omega
 have HC1:Hid (∀q,q<m.length→0<cntS m q):=Lib.hid (fun q hq=>((MayF.ofH hM).c1 q hq).1)
 clear hV gV h hop hD hM hsz hm8
 go_enter Tryz.func22,Tryz.ntmps22
 go_upto_region 1 with (fail)
 rw[←HV.out]
 clear HV
 go_wp2
 go_loopw [6,5] (fun i v wr=>∃(q:Nat) (L:List (Option Addr×Nat)),q≤m.length∧i= .int .i64 q∧Gr V wr∧L.length=q∧wr.ownsRow V.heap.size 38 1 v q (rgC m D L)∧Hid (∀k (h:k<L.length),Ri wr L[k].1 (ringS m D k)∧∀ad,L[k].1=some ad→ad.block<wr.heap.size∧v.ownBlock≠some ad.block∧V.heap.size≤ad.block)) (fun i _ _=>m.length-(intOf i).toNat)
 case atStart=>exact ⟨0,[],Nat.zero_le _,rfl,Gr.refl _,rfl,World.ownsRow_nil _ _ _ _,Lib.hid (fun k h=>by cases h)⟩
 case round=>
  obtain ⟨q,L,hq,rfl,hgr,hL,hown,HK⟩:=hrel
  have HG:=Lib.hid hgr
  have d2:=(Below.cell hgr (p:=⟨w.heap.size,2,none⟩) hz0').trans c2
  by_cases hlt:q<m.length
  ·
   have hlti:(q:Int)<(m.length:Int):=by omega
   have hqq:IntKind.i64.wrap (q:Int)=(q:Int):=IntWalk.i64_in _ (by omega)
   have HO:=Lib.hid hown
   have HLL:=Lib.hid hL
   clear hown hgr hL
   go_upto_region 6 with (go_at_call 39;refine (HRI.out _ q hlt (HGV.out.trans HG.out)).mono ?_;rintro e w1 ⟨g1,A1,c1,rfl,hr1,hf1⟩;have H1:=Lib.hid (And.intro g1 (And.intro hr1 hf1));clear g1 hr1 hf1)
   have hown1:=own_grU HO.out H1.out.1
   have hrx:Rd (w1.alloc (.cells #[.slice A1 (ringS m D q).length c1] 38)) 1 (some ⟨w1.heap.size,0,none⟩) 1 [.slice A1 (ringS m D q).length c1]:=Rd.newU (W:=w1) rfl 38 [.slice A1 (ringS m D q).length c1] rfl
   have gA:Gr w1 (w1.alloc (.cells #[.slice A1 (ringS m D q).length c1] 38)):=Gr.alloc (Gr.refl w1) _
   have hown2:=own_grU hown1 gA
   have hbase:V.heap.size≤(w1.alloc (.cells #[.slice A1 (ringS m D q).length c1] 38)).heap.size:=Nat.le_trans HG.out.size (Nat.le_trans H1.out.1.size gA.size)
   have HX:=Lib.hid (And.intro hown2 (And.intro hrx (And.intro gA hbase)))
   clear hown1 hown2 hrx gA hbase
   go_wp2_with (at_builtin;refine wpList_append_rd rfl (.tmp 22) (.tmp 24) 57 rfl V.heap.size 38 i0 _ 1 24 Tryz.underlying57 hi hz0 hz1 hz2 rfl (by decide) _ _ _ rfl HX.out.1 (some ⟨w1.heap.size,0,none⟩) 1 _ [.slice A1 (ringS m D q).length c1] rfl HX.out.2.1 (by intro u hu;simp at hu;rw[hu];rfl) (by unfold maxLen;omega) (by omega) HX.out.2.2.2 ?_;intro v9 w3 hown3 hgr3 hat3;have H3:=Lib.hid (And.intro hown3 (And.intro hgr3 hat3));clear hown3 hgr3 hat3)
   go_roundw
   case rel=>
    have hg3:Gr V w3:=Gr.grown (HG.out.trans (H1.out.1.trans HX.out.2.2.1)) H3.out.2.1 (fun k hk=>(HX.out.1.lt k hk).1)
    refine ⟨q+1,L++[(A1,c1)],by omega,by go_num,hg3,by simp[HLL.out],?_,Lib.hid (fun k hk=>?_)⟩
    ·
     rw[rgC_snoc,HLL.out]
     exact H3.out.1
    ·
     have hg1:=H1.out.1.trans HX.out.2.2.1
     have hk3:Kp (fun k=>u5.ownBlock=some k) wr w3:=(Kp.of_gr (fun k=>u5.ownBlock=some k) hg1).grown H3.out.2.1 (fun k hk=> .inl hk)
     have hvl:∀k,u5.ownBlock=some k→k<wr.heap.size:=fun k e=>(HO.out.lt k e).2
     have hat:∀k,v9.ownBlock=some k→u5.ownBlock=some k∨(w1.alloc (.cells #[.slice A1 (ringS m D q).length c1] 38)).heap.size≤k:=fun k e=>by
      rcases H3.out.2.2 with e2|e2
      ·
       exact .inl ((show v9.ownBlock=u5.ownBlock from e2).symm.trans e)
      ·
       have e4:=e2.symm.trans e;injection e4 with e4;exact .inr (Nat.le_of_eq e4)
     have hza:=HX.out.2.2.1.size
     by_cases hkL:k<L.length
     ·
      rw[List.getElem_append_left hkL]
      obtain ⟨b1,b2⟩:=HK.out k hkL
      exact ⟨Ri.kpR b1 hk3 (fun ad e=>(b2 ad e).2.1),fun ad e=>⟨Nat.lt_of_lt_of_le (b2 ad e).1 hk3.size,fun e2=>by
       rcases hat _ e2 with e3|e3
       ·
        exact (b2 ad e).2.1 e3
       ·
        have h1:=(b2 ad e).1
        have h2:=H1.out.1.size
        omega,(b2 ad e).2.2⟩⟩
     ·
      have hke:k=L.length:=by simp at hk;omega
      subst hke
      rw[List.getElem_append_right (Nat.le_refl _)]
      simp only[Nat.sub_self,List.getElem_cons_zero]
      rw[HLL.out]
      have hpos:0<(ringS m D q).length:=by rw[ringS_len];exact HC1.out q hlt
      have hfr:=H1.out.2.2
      have hri1:=H1.out.2.1
      obtain ⟨ad1,ea,hb1, -⟩:=hri1 (by exact hpos)
      have k3:Kp (fun k=>u5.ownBlock=some k) w1 w3:=((Kp.of_gr (fun k=>u5.ownBlock=some k) HX.out.2.2.1)).grown H3.out.2.1 (fun k hk=> .inl hk)
      refine ⟨Ri.kpR hri1 k3 (fun ad e e2=>by have h1:=hvl _ e2;have h2:=hfr ad e;omega),fun ad e=>?_⟩
      rw[ea] at e
      injection e with e
      subst e
      refine ⟨Nat.lt_of_lt_of_le hb1 k3.size,fun e2=>?_,Nat.le_trans HG.out.size (hfr _ ea)⟩
      rcases hat _ e2 with e3|e3
      ·
       have h1:=hvl _ e3;have h2:=hfr _ ea;omega
      ·
       omega
   case measure=>simp[intOf];omega
  ·
   have hlti:¬(q:Int)<(m.length:Int):=by omega
   obtain ⟨A9,c9,hv⟩:=own_form hown
   have hqe:q=m.length:=by omega
   subst hqe
   subst hv
   have HO:=Lib.hid hown
   have HLL:=Lib.hid hL
   clear hown hgr hL
   go_wp2
   go_ret
   exact ⟨HGV.out.trans HG.out,A9,c9,L,rfl,HLL.out,Rd.own HO.out,fun k hk=>(HK.out k hk).1,fun ad e=>by
    subst e
    have:=HO.out.lt ad.block (own_blkR HO.out)
    exact ⟨Nat.le_trans HGV.out.size this.1,this.2⟩,fun k hk ad e=>⟨Nat.le_trans HGV.out.size ((HK.out k hk).2 ad e).2.2,((HK.out k hk).2 ad e).1⟩⟩
def RetRe (s c t k now:Int) (w:World) (e:Ending) (w':World):Prop:=(∃b,e= .returned (.bool b)∧(b=true→0<t∧t%s=0∧placeS s c t=k∧t≤now∧now-t<s*c))∧Gr w w'
theorem reached_any (s c t k now:Int) (hs1:1≤s) (hs2:s≤16777216) (hc1:1≤c) (hc2:c≤16777216) (ht1:0≤t) (ht2:t≤4294967295) (hn1:1≤now) (hn2:now≤4294967295) (w:World) :
  Calls Tryz.prog 28 #[.agg #[.int .i64 s, .int .i64 c], .int .i64 t, .int .i64 k, .int .i64 now] w (RetRe s c t k now w):=by
 obtain ⟨V,hV⟩:∃V,V=w.alloc (.cells #[.int .i64 s, .int .i64 c] 69):=⟨_,rfl⟩
 have gV:Gr w V:=by rw[hV];exact Gr.alloc (Gr.refl w) _
 have hz0:w.heap.size<V.heap.size:=by rw[hV];simp
 have c0:V.cell? ⟨w.heap.size,0,none⟩=some (.int .i64 s):=by rw[hV];go_simp
 have c1:V.cell? ⟨w.heap.size,1,none⟩=some (.int .i64 c):=by rw[hV];go_simp
 have HV:=Lib.hid hV
 have HGV:=Lib.hid gV
 have hpl:=fun W=>rplace_any s c t (by omega) (by omega) (by omega) W
 obtain ⟨pl,hpe⟩:∃pl,pl=placeS s c t:=⟨_,rfl⟩
 rw[←hpe] at hpl
 have HPE:=Lib.hid hpe
 have HPL:=Lib.hid hpl
 have hm:Int.tmod t s=t%s:=Int.tmod_eq_emod_of_nonneg ht1
 have hsn:¬s=0:=by omega
 obtain ⟨r,hr⟩:∃r,r=t%s:=⟨_,rfl⟩
 rw[←hr] at hm
 have HRE:=Lib.hid hr
 have hwm:=prod_small s c hs1 hs2 hc1 hc2
 have hpr:0≤s*c∧s*c≤281474976710656:=⟨Int.mul_nonneg (by omega) (by omega),Int.le_trans (Int.mul_le_mul hs2 hc2 (by omega) (by omega)) (by decide)⟩
 obtain ⟨sc,hsc⟩:∃sc,sc=s*c:=⟨_,rfl⟩
 rw[←hsc] at hpr
 have HSC:=Lib.hid hsc
 have hw64:wrap64 (s*c)=sc:=by rw[hsc];exact IntWalk.wrap64_in _ (by omega)
 rw[←hsc] at hwm
 clear hwm
 have hw65:IntKind.i64.wrap (s*c)=sc:=by rw[hsc];exact IntWalk.i64_in _ (by omega)
 have hwd:IntKind.i64.wrap (now-t)=now-t:=IntWalk.i64_in _ (by omega)
 clear hV gV hpl hpe hr hsc
 by_cases q1:0<t
 ·
  have d1:decide (0<t)=true:=decide_eq_true q1
  by_cases q2:r=0
  ·
   have d2:(r==0)=true:=beq_iff_eq.2 q2
   by_cases q3:pl=k
   ·
    have d3:(pl==k)=true:=beq_iff_eq.2 q3
    by_cases q4:t≤now
    ·
     have d4:decide (t≤now)=true:=decide_eq_true q4
     by_cases q5:now-t<sc
     ·
      have d5:decide (now-t<sc)=true:=decide_eq_true q5
      have HQ:Hid (0<t∧t%s=0∧placeS s c t=k∧t≤now∧now-t<s*c):=Lib.hid ⟨q1,by rw[←HRE.out];exact q2,by rw[←HPE.out];exact q3,q4,by rw[←HSC.out];exact q5⟩
      clear q2 q3
      go_enter Tryz.func28,Tryz.ntmps28
      go_upto_region 1 with (fail)
      rw[←HV.out]
      clear HV
      go_wp2_with (go_at_call 66;refine (HPL.out _).mono ?_;rintro e w1 ⟨rfl,g1⟩;have c0q:=(Below.cell g1 (p:=⟨w.heap.size,0,none⟩) hz0).trans c0;have c1q:=(Below.cell g1 (p:=⟨w.heap.size,1,none⟩) hz0).trans c1;have HG1:=Lib.hid (HGV.out.trans g1);clear g1)
      go_ret
      first|exact ⟨⟨true,rfl,fun _=>HQ.out⟩,HG1.out⟩|exact ⟨⟨true,rfl,fun _=>HQ.out⟩,HGV.out⟩
     ·
      have d5:decide (now-t<sc)=false:=decide_eq_false q5
      clear q2 q3
      go_enter Tryz.func28,Tryz.ntmps28
      go_upto_region 1 with (fail)
      rw[←HV.out]
      clear HV
      go_wp2_with (go_at_call 66;refine (HPL.out _).mono ?_;rintro e w1 ⟨rfl,g1⟩;have c0q:=(Below.cell g1 (p:=⟨w.heap.size,0,none⟩) hz0).trans c0;have c1q:=(Below.cell g1 (p:=⟨w.heap.size,1,none⟩) hz0).trans c1;have HG1:=Lib.hid (HGV.out.trans g1);clear g1)
      go_ret
      first|exact ⟨⟨false,rfl,(fun e=>by cases e)⟩,HG1.out⟩|exact ⟨⟨false,rfl,(fun e=>by cases e)⟩,HGV.out⟩
    ·
     have d4:decide (t≤now)=false:=decide_eq_false q4
     clear q2 q3
     go_enter Tryz.func28,Tryz.ntmps28
     go_upto_region 1 with (fail)
     rw[←HV.out]
     clear HV
     go_wp2_with (go_at_call 66;refine (HPL.out _).mono ?_;rintro e w1 ⟨rfl,g1⟩;have c0q:=(Below.cell g1 (p:=⟨w.heap.size,0,none⟩) hz0).trans c0;have c1q:=(Below.cell g1 (p:=⟨w.heap.size,1,none⟩) hz0).trans c1;have HG1:=Lib.hid (HGV.out.trans g1);clear g1)
     go_ret
     first|exact ⟨⟨false,rfl,(fun e=>by cases e)⟩,HG1.out⟩|exact ⟨⟨false,rfl,(fun e=>by cases e)⟩,HGV.out⟩
   ·
    have d3:(pl==k)=false:=beq_eq_false_iff_ne.2 q3
    clear q2 q3
    go_enter Tryz.func28,Tryz.ntmps28
    go_upto_region 1 with (fail)
    rw[←HV.out]
    clear HV
    go_wp2_with (go_at_call 66;refine (HPL.out _).mono ?_;rintro e w1 ⟨rfl,g1⟩;have c0q:=(Below.cell g1 (p:=⟨w.heap.size,0,none⟩) hz0).trans c0;have c1q:=(Below.cell g1 (p:=⟨w.heap.size,1,none⟩) hz0).trans c1;have HG1:=Lib.hid (HGV.out.trans g1);clear g1)
    go_ret
    first|exact ⟨⟨false,rfl,(fun e=>by cases e)⟩,HG1.out⟩|exact ⟨⟨false,rfl,(fun e=>by cases e)⟩,HGV.out⟩
  ·
   have d2:(r==0)=false:=beq_eq_false_iff_ne.2 q2
   clear q2
   go_enter Tryz.func28,Tryz.ntmps28
   go_upto_region 1 with (fail)
   rw[←HV.out]
   clear HV
   go_wp2_with (go_at_call 66;refine (HPL.out _).mono ?_;rintro e w1 ⟨rfl,g1⟩;have c0q:=(Below.cell g1 (p:=⟨w.heap.size,0,none⟩) hz0).trans c0;have c1q:=(Below.cell g1 (p:=⟨w.heap.size,1,none⟩) hz0).trans c1;have HG1:=Lib.hid (HGV.out.trans g1);clear g1)
   go_ret
   first|exact ⟨⟨false,rfl,(fun e=>by cases e)⟩,HG1.out⟩|exact ⟨⟨false,rfl,(fun e=>by cases e)⟩,HGV.out⟩
 ·
  have d1:decide (0<t)=false:=decide_eq_false q1
  go_enter Tryz.func28,Tryz.ntmps28
  go_upto_region 1 with (fail)
  rw[←HV.out]
  clear HV
  go_wp2_with (go_at_call 66;refine (HPL.out _).mono ?_;rintro e w1 ⟨rfl,g1⟩;have c0q:=(Below.cell g1 (p:=⟨w.heap.size,0,none⟩) hz0).trans c0;have c1q:=(Below.cell g1 (p:=⟨w.heap.size,1,none⟩) hz0).trans c1;have HG1:=Lib.hid (HGV.out.trans g1);clear g1)
  go_ret
  first|exact ⟨⟨false,rfl,(fun e=>by cases e)⟩,HG1.out⟩|exact ⟨⟨false,rfl,(fun e=>by cases e)⟩,HGV.out⟩
theorem mayH_arc {ag xf:Int} {l:List (Int×Int)} (h:mayH ag xf l=true):∃(a x:Nat) (m:Arcs),ag=a∧xf=x∧l=ints m:=by
 obtain ⟨m,rfl,hm,h1,h2,h3,h4⟩:=mayH_nat h
 exact ⟨ag.toNat,xf.toNat,m,by omega,by omega,rfl⟩
def infR (D:Option (List UInt8)):(Int×Int)×List (Int×Int)×Int:=
 match D with
 | none=>((0,0),[],5)
 | some d=>match opS d with
  | none=>((0,0),[],2)
  | some (ag,xf,m)=>(((ag:Nat),(xf:Nat)),ints m,0)
def RetIf (r:(Int×Int)×List (Int×Int)×Int) (w:World) (e:Ending) (w':World):Prop:=
 Gr w w'∧∃A c,e= .returned (.tuple #[.agg #[.int .i64 r.1.1, .int .i64 r.1.2, .slice A r.2.1.length c], .int .i64 r.2.2])∧Ri w' A r.2.1∧r.2.1.length≤c
theorem infR_bad {d:List UInt8} (h:opS d=none):infR (some d)=((0,0),[],2):=by simp only[infR,h]
theorem infR_good {d:List UInt8} {ag xf:Nat} {m:Arcs} (h:opS d=some (ag,xf,m)):infR (some d)=(((ag:Int),(xf:Int)),ints m,0):=by simp only[infR,h]
theorem RetIw.sum {D:List UInt8} {w:World} {e:Ending} {w':World} (h:RetIw D w e w'):RetIf (infR (some D)) w e w':=by
 unfold RetIw at h
 have h2:=h.2
 cases ho:opS D with
 | none=>
  rw[infR_bad ho]
  rw[ho] at h2
  simp only at h2
  exact ⟨h.1,none,0,h2,fun h0=>absurd h0 (by simp),Nat.le_refl _⟩
 | some p=>
  obtain ⟨ag,xf,m⟩:=p
  rw[infR_good ho]
  rw[ho] at h2
  simp only at h2
  obtain ⟨A,c,h3,h5,h4⟩:=h2
  exact ⟨h.1,A,c,by rw[ints_len];exact h3,h4,by rw[ints_len];exact h5⟩
def kM:Arcs:=[(1,60),(60,5)]
theorem kM_may:mayH 2 0 (ints kM)=true:=by kernel_rfl
theorem kM_size:sizeS kM=820:=by kernel_rfl
theorem known_n:(updS 2 0 kM 100 [(99,5)] (0,newS 2 0 kM)).1=1:=by kernel_rfl
theorem known_v:fetV kM (updS 2 0 kM 100 [(99,5)] (0,newS 2 0 kM)).2 100 98 99=[⟨true,5⟩]:=by kernel_rfl
theorem known_s:startS kM (whichS kM (100-frS kM 100 98)) (frS kM 100 98)=99:=by kernel_rfl
section
open Go.RowKit Go.ChangeMaps Go.Maps
theorem vnew_row (room:Int) (h0:0≤room) (h1:room≤1073741824) (w:World):Calls Tryz.prog 9 #[.int .i64 room] w fun e w'=>e= .returned (.tuple #[.pointer (some ⟨w.heap.size+3,0,none⟩), .int .i64 0])∧FsM (fun _=>False) w' (w.heap.size+3) (w.heap.size+1) (w.heap.size+2) none room 0 none∧Gr w w'∧w'.frozen? ⟨w.heap.size+3,2,none⟩=false:=by
 obtain ⟨V,hV⟩:∃V,V=(((w.alloc (.map #[] 0)).alloc (.cells #[.slice none 0 0, .map (some w.heap.size)] 77)).alloc (.map #[] 0)).alloc (.cells #[.pointer (some ⟨w.heap.size+1,0,none⟩), .int .i64 room, .map (some (w.heap.size+2))] 79):=⟨_,rfl⟩
 have gV:Gr w V:=by rw[hV];exact Gr.alloc (Gr.alloc (Gr.alloc (Gr.alloc (Gr.refl w) _) _) _) _
 have hz:V.heap.size=w.heap.size+4:=by rw[hV];simp
 have hm:V.heap[w.heap.size+2]?=some (.map #[] 0):=by
  rw[hV,heap_alloc_old _ _ (by simp)]
  have e:w.heap.size+2=((w.alloc (.map #[] 0)).alloc (.cells #[.slice none 0 0, .map (some w.heap.size)] 77)).heap.size:=by simp
  rw[e]
  exact heap_alloc_new _ _
 have HF:Hid (FsM (fun _=>False) V (w.heap.size+3) (w.heap.size+1) (w.heap.size+2) none room 0 none):=Lib.hid ⟨by omega,by omega,by omega,by omega,by omega,by omega,by rw[hV];go_simp,by rw[hV];go_simp,by rw[hV];go_simp,
  ⟨.slice none 0 0,[],by rw[hV];go_simp,rfl,World.ownsRow_nil _ _ _ _⟩,⟨.map (some w.heap.size),by rw[hV];go_simp⟩,by rw[hV];go_simp,by rw[hV];go_simp,(fun _ e=>by cases e),(fun _ e=>e.elim),⟨0,hm⟩⟩
 have HZ:Hid (V.frozen? ⟨w.heap.size+3,2,none⟩=false):=Lib.hid (by rw[hV];go_simp)
 have HV:=Lib.hid hV
 have HG:=Lib.hid gV
 have hm1:¬room<0:=by omega
 have hm2:¬1073741824<room:=by omega
 clear hV gV hm hz
 have hmm:= @run_makeMap Tryz.prog
 go_enter Tryz.func9,Tryz.ntmps9
 go_wp2
 go_ret2
 refine ⟨rfl,?_,?_,?_⟩
 ·
  have:=HF.out
  rw[HV.out] at this
  exact this
 ·
  have:=HG.out
  rw[HV.out] at this
  exact this
 ·
  have:=HZ.out
  rw[HV.out] at this
  exact this
theorem vnew_any (room:Int) (h0:0≤room) (h1:room≤1073741824) (w:World):Calls Tryz.prog 9 #[.int .i64 room] w fun e w'=>e= .returned (.tuple #[.pointer (some ⟨w.heap.size+3,0,none⟩), .int .i64 0])∧FsM (fun _=>False) w' (w.heap.size+3) (w.heap.size+1) (w.heap.size+2) none room 0 none∧Gr w w':=
 (vnew_row room h0 h1 w).mono fun e w' q=>⟨q.1,q.2.1,q.2.2.1⟩
end
theorem nmA_eq:(⟨#[97]⟩:ByteArray)=nmA:=by kernel_rfl
theorem gr_tch {w w1 w2:World} {P M:Nat} {R:Option Nat} (g:Gr w w1) (k:Kp (Tch P M R) w1 w2) (hP:w.heap.size≤P) (hM:w.heap.size≤M) (hR:∀i,R=some i→w.heap.size≤i):Gr w w2:=
 ((Kp.of_gr (Tch P M R) g).trans k (fun _ _ e=>e)).gr (fun i hi e=>by
  rcases e with e|e|e
  ·
   omega
  ·
   omega
  ·
   have:=hR i e;omega)
theorem Ri.lit2 (w:World) (a b c d:Int) (T:TypeId):Ri (w.alloc (.cells #[.int .i64 a, .int .i64 b, .int .i64 c, .int .i64 d] T)) (some ⟨w.heap.size,0,none⟩) [(a,b),(c,d)]:=Ri.of_rows fun _=>by
 refine ⟨by simp,fun k hk=>?_⟩
 match k,hk with
 | 0,_=>exact ⟨by go_simp,by go_simp⟩
 | 1,_=>exact ⟨by go_simp,by go_simp⟩
theorem Ri.lit1 (w:World) (a b:Int) (T:TypeId):Ri (w.alloc (.cells #[.int .i64 a, .int .i64 b] T)) (some ⟨w.heap.size,0,none⟩) [(a,b)]:=Ri.of_rows fun _=>by
 refine ⟨by simp,fun k hk=>?_⟩
 match k,hk with
 | 0,_=>exact ⟨by go_simp,by go_simp⟩
theorem known7_any (w:World):Calls Tryz.prog 18 #[] w fun e w'=>e= .returned (.bool true)∧Gr w w':=by
 have hnm:=nmA_eq
 obtain ⟨KD,hKD⟩:∃KD,KD=(updS 2 0 kM 100 [(99,5)] (0,newS 2 0 kM)).2:=⟨_,rfl⟩
 have hF:=MayF.ofH kM_may
 have hok:HdOk 2 0 kM KD:=by rw[hKD];exact HdOk.upd hF _ _ (newS_ok 2 0 kM)
 have hop:=opS_hdr kM_may hok
 have hop0:=opS_hdr kM_may (newS_ok 2 0 kM)
 have hl0:((newS 2 0 kM).length:Int)≤1073741824:=by rw[(newS_ok 2 0 kM).1,kM_size];omega
 have hlK:(KD.length:Int)≤1073741824:=by rw[hok.1,kM_size];omega
 have hv:=known_v
 have hn:=known_n
 rw[←hKD] at hv
 have HK:=Lib.hid (And.intro hop (And.intro hop0 (And.intro hl0 (And.intro hlK (And.intro hv (And.intro hn hKD))))))
 clear hF hok hop hop0 hl0 hlK hv hn hKD hnm
 go_enter Tryz.func18,Tryz.ntmps18
 go_upto_region 3 with (go_at_call 9;refine (vnew_any 65536 (by omega) (by omega) _).mono ?_;rintro e w1 ⟨rfl,hf1,g1⟩;have H1:=Lib.hid (And.intro hf1 g1);clear hf1 g1)
 obtain ⟨V,hV⟩:∃V,V=(w1.alloc (.cells #[.int .i64 1, .int .i64 60, .int .i64 60, .int .i64 5] 69)).alloc (.cells #[.int .i64 2, .int .i64 0, .slice (some ⟨w1.heap.size,0,none⟩) 2 2] 24):=⟨_,rfl⟩
 have gV:Gr w1 V:=by rw[hV];exact Gr.alloc (Gr.alloc (Gr.refl w1) _) _
 have c0:V.cell? ⟨w1.heap.size+1,0,none⟩=some (.int .i64 2):=by rw[hV];go_simp
 have c1:V.cell? ⟨w1.heap.size+1,1,none⟩=some (.int .i64 0):=by rw[hV];go_simp
 have c2:V.cell? ⟨w1.heap.size+1,2,none⟩=some (.slice (some ⟨w1.heap.size,0,none⟩) 2 2):=by rw[hV];go_simp
 have hri:Ri V (some ⟨w1.heap.size,0,none⟩) (ints kM):=by
  rw[hV,show ints kM=[(1,60),(60,5)] from by kernel_rfl]
  exact (Ri.lit2 w1 1 60 60 5 _).gr (Gr.alloc (Gr.refl _) _)
 rw[←hV]
 obtain ⟨F,hF⟩:∃F,F=w.heap.size+3:=⟨_,rfl⟩
 obtain ⟨P,hP⟩:∃P,P=w.heap.size+1:=⟨_,rfl⟩
 obtain ⟨M,hM⟩:∃M,M=w.heap.size+2:=⟨_,rfl⟩
 rw[←hF,←hP,←hM] at H1
 rw[←hF]
 have HPM:=Lib.hid (show w.heap.size≤P∧w.heap.size≤M by omega)
 have hcr:=wcreate_any 2 0 (some ⟨w1.heap.size,0,none⟩) 2 kM kM_may (by decide) (by omega) (by rw[kM_size];omega) (by omega) V (H1.out.1.gr gV) hri
 rw[←nmA_eq] at hcr
 have HCR:Hid (Calls Tryz.prog 11 #[.pointer (some ⟨F,0,none⟩), .string ⟨#[97]⟩, .agg #[.int .i64 2, .int .i64 0, .slice (some ⟨w1.heap.size,0,none⟩) 2 2]] V fun e w'=>e= .returned (.int .i64 0)∧FsM (fun _=>False) w' F P M none 65536 0 (some (newS 2 0 kM))∧Kp (Tch P M none) V w'):=Lib.hid hcr
 have HGV:=Lib.hid (H1.out.2.trans gV)
 clear hV gV hri hF hP hM hcr
 go_upto_region 4 with (go_at_call 11;refine HCR.out.mono ?_;rintro e w2 ⟨rfl,hf2,hk2⟩;have H2:=Lib.hid (And.intro hf2 (gr_tch HGV.out hk2 HPM.out.1 HPM.out.2 (fun _ e=>by cases e)));clear hf2 hk2)
 clear c0 c1 c2
 obtain ⟨V3,hV3⟩:∃V3,V3=w2.alloc (.cells #[.int .i64 99, .int .i64 5] 54):=⟨_,rfl⟩
 have g3:Gr w2 V3:=by rw[hV3];exact Gr.alloc (Gr.refl w2) _
 have hup:=wupdate_any HK.out.2.2.1 HK.out.2.1 100 (by omega) (by omega) (some ⟨w2.heap.size,0,none⟩) 1 [(99,5)] (by decide) (by omega) V3 (H2.out.1.gr g3) (by rw[hV3];exact Ri.lit1 w2 99 5 _) (fun ad e=>by
  injection e with e
  subst e
  intro e
  have h1:=H2.out.1.lp
  have h2:=H2.out.1.lm
  rcases e with e|e|e
  ·
   simp only at e;omega
  ·
   simp only at e;omega
  ·
   cases e)
 rw[←nmA_eq] at hup
 have e1:(updS ((2:Nat):Int) ((0:Nat):Int) kM 100 [(99,5)] (0,newS 2 0 kM)).1=1:=HK.out.2.2.2.2.2.1
 have e2:(updS ((2:Nat):Int) ((0:Nat):Int) kM 100 [(99,5)] (0,newS 2 0 kM)).2=KD:=HK.out.2.2.2.2.2.2.symm
 rw[e1,e2] at hup
 have HUP:Hid (Calls Tryz.prog 23 #[.pointer (some ⟨F,0,none⟩), .string ⟨#[97]⟩, .int .i64 100, .slice (some ⟨w2.heap.size,0,none⟩) 1 1] V3 fun e w'=>e= .returned (.tuple #[.int .i64 1, .int .i64 0])∧FsM (fun _=>False) w' F P M none 65536 0 (some KD)∧Kp (Tch P M none) V3 w'):=Lib.hid hup
 have HG3:=Lib.hid (H2.out.2.trans g3)
 have HV3:=Lib.hid hV3
 clear hup e1 e2 hV3 g3
 have HFE:Hid (∀W,FsM (fun _=>False) W F P M none 65536 0 (some KD)→Calls Tryz.prog 36 #[.pointer (some ⟨F,0,none⟩), .string ⟨#[97]⟩, .int .i64 100, .int .i64 98, .int .i64 99] W fun e w'=>Gr W w'∧∃A c k,e= .returned (.tuple #[.agg #[.string nmA, .int .i64 99, .int .i64 k, .slice A 1 c, .int .i64 0], .int .i64 0])∧Rv w' A [⟨true,5⟩]):=Lib.hid (fun W hW=>by
  have h:=wfetch_any HK.out.2.2.2.1 HK.out.1 100 98 99 (by omega) (by omega) (by omega) (by omega) (by omega) (by rw[show spanS kM=300 from by kernel_rfl];omega) W hW
  rw[←nmA_eq] at h
  refine h.mono ?_
  rintro e w' ⟨hg,A,c,rfl,hr⟩
  rw[HK.out.2.2.2.2.1] at hr ⊢
  rw[known_s]
  exact ⟨hg,A,c,_,rfl,hr⟩)
 go_wp2_with (first|(go_at_call 23;rw[←HV3.out];refine HUP.out.mono ?_;rintro e w4 ⟨rfl,hf4,hk4⟩;have H4:=Lib.hid (And.intro hf4 (gr_tch HG3.out hk4 HPM.out.1 HPM.out.2 (fun _ e=>by cases e)));clear hf4 hk4)|(go_at_call 36;refine (HFE.out _ H4.out.1).mono ?_;rintro e w5 ⟨g5,A,c,k,rfl,hr⟩;obtain ⟨ad,rfl,hb,hx0,hx1⟩:=hr.at (show 0<1 by decide);have y0:w5.cell? ad=some (.bool true):=hx0;have y1:w5.cell? ⟨ad.block,ad.off+1,none⟩=some (.int .i64 5):=hx1;have HG5:=Lib.hid (H4.out.2.trans g5);clear g5 hr hx0 hx1))
 go_ret
 exact ⟨rfl,HG5.out.alloc _⟩
end Go.Proofs.YtoncapkmaeghfaaGreat
