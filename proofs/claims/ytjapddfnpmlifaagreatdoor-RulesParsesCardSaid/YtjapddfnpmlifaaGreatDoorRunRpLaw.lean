import Derived.Test.YtjapddfnpmlifaaGreatDoorRunRpSame
import Derived.Test.YtjapddfnpmlifaaGreatDoorRunRqMem
import Derived.Test.YtjapddfnpmlifaaGreatDoorRunRqLin
import Derived.Test.YtjapddfnpmlifaaGreatDoorRunFxBase
import Derived.HandedShaped
import Derived.Shelf.Vars
import Derived.OpenShut
import Derived.LaidMore
import Derived.Lay
import Derived.SevenTiedAt
import Derived.Stop.Joined
import Derived.Test.YtjapddfnpmlifaaGreatDoorRunRuIntv
set_option linter.all false
set_option maxRecDepth 1000000
set_option maxHeartbeats 12800000
namespace Go.Proofs.YtjapddfnpmlifaaGreatDoor
open Go.RowKit
theorem retS_pos {l:List UInt8} {m:List (Nat×Nat)} (h:retS l=some m):0<m.length:=by
 unfold retS at h;cases ha:archsS (partS 44 l) with
 | none=>rw[ha] at h;cases h
 | some r=>
  rw[ha] at h;simp only at h;cases hM:mayS r
  ·rw[hM] at h;cases h
  ·rw[hM] at h;simp only[cond_true,Option.some.injEq] at h;subst h;rw[archsS_len _ _ ha];have:=part_sum 44 l;cases hp:partS 44 l with
   | nil=>rw[hp] at this;simp[sumL] at this
   | cons p q=>simp
def OkS (st:St):Prop:=(∀s∈st.S,s.pat.length<=300/\∃y,retS y=some s.ar)/\∀r∈st.R,r.pat.length<=300
theorem word_ok {q:List (List UInt8)} (hq:∀p∈q,p.length<=300) {st:St} (h:OkS st) {st':St} (ha:addS st (wordsS q)=some st'):OkS st':=by
 match q,hq,ha with
 | [a,x,y],hq,ha=>
  rw[words3] at ha;cases hc:(a==wSch)
  ·rw[hc] at ha;cases ha
  ·rw[hc,cond_true] at ha;unfold schS at ha;cases hp:patB x
   ·rw[hp] at ha;cases ha
   ·rw[hp,cond_true] at ha;cases hr:retS y with
    | none=>rw[hr] at ha;cases ha
    | some r=>
     rw[hr] at ha;injection ha with ha;subst ha;refine ⟨λs hs=>?_,h.2⟩;rcases List.mem_append.1 hs with hs|hs
     ·exact h.1 s hs
     ·rw[List.mem_singleton] at hs;subst hs;exact ⟨hq x (by simp),y,hr⟩
 | [a,x,y,z],hq,ha=>
  rw[words4] at ha;cases hc:(a==wRul)
  ·rw[hc] at ha;cases ha
  ·rw[hc,cond_true] at ha;unfold rulS at ha;cases hp:(patB x&&kindI ⟨y.toArray⟩ != 0)
   ·rw[hp] at ha;cases ha
   ·rw[hp,cond_true] at ha;cases hr:xffS z with
    | none=>rw[hr] at ha;cases ha
    | some r=>
     rw[hr] at ha;injection ha with ha;subst ha;refine ⟨h.1,λs hs=>?_⟩;rcases List.mem_append.1 hs with hs|hs
     ·exact h.2 s hs
     ·rw[List.mem_singleton] at hs;subst hs;exact hq x (by simp)
 | [],_,ha=>cases ha
 | [_],_,ha=>cases ha
 | [_,_],_,ha=>cases ha
 | _::_::_::_::_::_,_,ha=>cases ha
theorem run_ok:∀{m:List (List UInt8)} {st s:St},(∀p∈m,p.length<=300)->OkS st->runS m st=some s->OkS s
 | [],_,_,_,h,e=>by injection e with e;subst e;exact h
 | p::m,st,s,hm,h,e=>by
  rw[runS] at e;cases hs:skipS p
  ·rw[hs,cond_false] at e;cases ha:addS st (lineS p) with
   | none=>rw[ha] at e;cases e
   | some s1=>
    rw[ha] at e;exact run_ok (λq hq=>hm q (List.mem_cons_of_mem _ hq)) (word_ok (λx hx=>Nat.le_trans (partS_mem 32 p x hx).1 (hm p List.mem_cons_self)) h ha) e
  ·rw[hs,cond_true] at e;exact run_ok (λq hq=>hm q (List.mem_cons_of_mem _ hq)) h e
theorem parse_ok {t:List UInt8} {s:St} (h:parseS t=some s) (ht:t.length<=300):OkS s:=
 run_ok (λp hp=>Nat.le_trans (partS_mem 10 t p hp).1 ht) ⟨λs hs=>(by cases hs),λr hr=>(by cases hr)⟩ h
theorem hdr_le {st:St} (h:OkS st) {nm:List UInt8} {k x:Int} {ar:List (Nat×Nat)} (e:hdrR st nm=some (k,x,ar)):ar.length<=8:=by
 unfold hdrR at e;cases hf:st.S.find? (λs=>inP s.pat nm) with
 | none=>rw[hf] at e;cases e
 | some s=>
  obtain ⟨-,y,hy⟩:=h.1 s (List.mem_of_find?_eq_some hf);have:=(retS_le hy).1;rw[hf] at e;simp only at e;cases hg:st.R.find? (λr=>inP r.pat nm)<;>rw[hg] at e<;>simp only[Option.some.injEq,Prod.mk.injEq] at e<;>rw[<-e.2.2]<;>exact this
theorem pat_eq {a b:ByteArray} (h:a.data.toList=b.data.toList):a=b:=by apply ByteArray.ext;apply Array.ext';exact h
theorem rule_eq:∀{a b:List Qr},a.map Qr.p=b.map Qr.p->a=b
 | [],[],_=>rfl
 | [],_::_,h=>by cases h
 | _::_,[],h=>by cases h
 | ⟨p,k,f⟩::a,⟨p',k',f'⟩::b,h=>by
  simp only[List.map_cons,List.cons.injEq,Qr.p,RR.mk.injEq] at h;obtain ⟨⟨h1,h2,h3⟩,h4⟩:=h;rw[pat_eq h1,h2,h3,rule_eq h4]
theorem law_RulesParses (t nm:ByteArray) (w:World) (hm:Ml w):Calls Tryz.prog 4 #[.string t, .string nm] w λe w'=>e= .returned (.bool true)/\Gr w w':=by
 by_cases ht:(300:Int)<(t.size:Int)
 ·clear hm;go_enter Tryz.func4,Tryz.ntmps4;go_wp2;go_ret;exact ⟨rfl,Gr.refl _⟩
 by_cases hn:(100:Int)<(nm.size:Int)
 ·clear hm;go_enter Tryz.func4,Tryz.ntmps4;go_wp2;go_ret;exact ⟨rfl,Gr.refl _⟩
 have HP1:=Lib.hid (parse_any t (by omega) w hm);have HP2:=Lib.hid (λW=>rparse_any t (by omega) W);have HM:=Lib.hid hm;clear hm;cases hps:parseS t.data.toList with
 | none=>
  rw[hps] at HP1 HP2;clear hps;go_enter Tryz.func4,Tryz.ntmps4;go_wp2_with (first|(go_at_call 6;refine HP1.out.mono ?_;rintro e w1 ⟨rfl,g1⟩;have G1:=Lib.hid g1;clear g1)|(go_at_call 11;refine (HP2.out _).mono ?_;rintro e w2 ⟨rfl,g2⟩;have G2:=Lib.hid g2;clear g2)|(go_at_call 9;refine (known25_any _ (HM.out.gr (G1.out.trans G2.out))).mono ?_;rintro e w3 ⟨rfl,g3⟩;have G3:=Lib.hid g3;clear g3));go_ret;exact ⟨rfl,(G1.out.trans G2.out).trans G3.out⟩
 | some st=>
  have htl:t.data.toList.length=t.size:=by simp
  have hfew:=parse_few hps (by omega);have hok:=Lib.hid (parse_ok hps (by omega));rw[hps] at HP1 HP2;clear hps htl;go_enter Tryz.func4,Tryz.ntmps4;go_upto_region 4 with (go_at_call 6;refine HP1.out.mono ?_;rintro e w1 ⟨R1,B1,l,m,v1,v2,rfl,hR1,hM1⟩)
  have HR1:=Lib.hid (And.intro hR1 hM1);clear hR1 hM1;go_upto_region 5 with (go_at_call 11;refine (HP2.out _).mono ?_;rintro e w2 ⟨R2,B2,lq,mq,u1,u2,rfl,hR2,hM2⟩)
  have HR2:=Lib.hid (And.intro hR2 hM2);have G1:=Lib.hid HR1.out.1.gr;have G12:=Lib.hid hR2.gr;have hl1:l.length=st.S.length:=by rw[<-HR1.out.2.1,List.length_map]
  have hm1:m.length=st.R.length:=by rw[<-HR1.out.2.2,List.length_map]
  have hl2:lq.length=st.S.length:=by rw[<-hM2.1,List.length_map]
  have hmq:m.map ruQ=mq:=rule_eq (by rw[hM2.2,<-HR1.out.2.2,List.map_map];rfl);have hm2:mq.length=m.length:=by rw[<-hmq,List.length_map]
  obtain ⟨n,hn'⟩:∃n,n=l.length:=⟨_,rfl⟩
  obtain ⟨k0,hk0⟩:∃k0,k0=m.length:=⟨_,rfl⟩
  have hnl:(n:Int)<=40:=by omega
  have hkl:(k0:Int)<=40:=by omega
  have hln:lq.length=n:=by omega
  have hmk:mq.length=k0:=by omega
  have hR2w:R2<w2.heap.size:=Nat.lt_of_lt_of_le hR2.lt hR2.sz;have HSL:=Lib.hid (And.intro hn' (And.intro hk0 (And.intro hln (And.intro hmk hmq))));have hA:∀s∈l,0<s.ar.length/\s.ar.length<=1000:=λs hs=>by
   obtain ⟨-,y,hy⟩:=hok.out.1 (scP s) (by rw[<-HR1.out.2.1];exact List.mem_map_of_mem hs);have h1:=retS_pos hy;have h2:=(retS_le hy).1;exact ⟨h1,by have:(scP s).ar.length<=8:=h2;exact Nat.le_trans this (by decide)⟩
  have hA2:∀s∈lq,(0<s.ar.length/\s.ar.length<=1000)/\∀a∈s.ar,a.1<=maxN/\a.2<=maxN:=λs hs=>by
   obtain ⟨-,y,hy⟩:=hok.out.1 s.p (by rw[<-hM2.1];exact List.mem_map_of_mem hs);have h1:=retS_pos hy;have h2:=retS_le hy;exact ⟨⟨h1,Nat.le_trans h2.1 (by decide)⟩,h2.2⟩
  have hB1:∀s∈l,s.pat.size<=500:=λs hs=>by
   have:=(hok.out.1 (scP s) (by rw[<-HR1.out.2.1];exact List.mem_map_of_mem hs)).1;have:s.pat.data.toList.length<=300:=this;have h2:s.pat.data.toList.length=s.pat.size:=by simp
   omega
  have hB2:∀s∈m,s.pat.size<=500:=λs hs=>by
   have:=hok.out.2 (ruQ s).p (by rw[<-HR1.out.2.2];exact List.mem_map_of_mem hs);have:s.pat.data.toList.length<=300:=this;have h2:s.pat.data.toList.length=s.pat.size:=by simp
   omega
  have hB3:∀s∈lq,s.pat.size<=500:=λs hs=>by
   have:=(hok.out.1 s.p (by rw[<-hM2.1];exact List.mem_map_of_mem hs)).1;have:s.pat.data.toList.length<=300:=this;have h2:s.pat.data.toList.length=s.pat.size:=by simp
   omega
  have hB4:∀s∈mq,s.pat.size<=500:=λs hs=>by
   have:=hok.out.2 s.p (by rw[<-hM2.2];exact List.mem_map_of_mem hs);have:s.pat.data.toList.length<=300:=this;have h2:s.pat.data.toList.length=s.pat.size:=by simp
   omega
  have HSC:=Lib.hid (λW (g:Gr w1 W)=>schemas_any HR1.out.1 (by omega) hA W g);have HRU:=Lib.hid (λW (g:Gr w1 W)=>rules_any HR1.out.1 (by omega) W g);have HH1:=Lib.hid (λW (g:Gr w1 W)=>header_any HR1.out.1 HR1.out.2 (by omega) (by omega) nm (by omega) hB1 hB2 hA W g);have HH2:=Lib.hid (λW (g:Gr w2 W)=>rheader_any HR2.out.1 HR2.out.2 (by omega) (by omega) nm (by omega) hB3 hB4 (λs hs=>(hA2 s hs).1) W g);have HA2:=Lib.hid hA2;rw[<-hn'] at HSC;rw[<-hk0] at HRU;have HOM:=Lib.hid hM2;obtain ⟨AQ,cq,hvq⟩:=own_form HR2.out.1.o1;obtain ⟨AP,cp,hvp⟩:=own_form HR2.out.1.o2;subst hvq hvp;have x1:w2.cell? ⟨R2,0,none⟩=some (.slice AQ n cq):=by rw[<-hln];exact hR2.x1
  have x2:w2.cell? ⟨R2,1,none⟩=some (.slice AP k0 cp):=by rw[<-hmk];exact hR2.x2
  have HRQ:Hid (RowQ w2 AQ n (qscells lq)):=Lib.hid (by rw[<-hln];exact RowQ.own hR2.o1);have HRP:Hid (RowQ w2 AP k0 (qrcells mq)):=Lib.hid (by rw[<-hmk];exact RowQ.own hR2.o2);have HRA:Hid (∀s∈lq,Ra w2 s.A s.ar):=Lib.hid (Two.at' hR2);clear hR2 hM2 hl1 hm1 hl2 hmq hm2 hn' hk0 hln hmk hA hA2 hB1 hB2 hB3 hB4 hfew HP1 HP2;go_upto_region 10 with (first|(go_at_call 12;refine (HSC.out _ G12.out).mono ?_;rintro e w3 ⟨A3,c3,q,rfl,hq,hrd3,hra3,g3⟩;have H3:=Lib.hid (And.intro hq (And.intro hrd3 (And.intro hra3 g3)));clear hq hrd3 hra3 g3)|(go_at_call 13;refine (HRU.out _ (G12.out.trans H3.out.2.2.2)).mono ?_;rintro e w4 ⟨A4,c4,rfl,hrd4,g4⟩;have H4:=Lib.hid (And.intro hrd4 g4);clear hrd4 g4))
  have G24:Hid (Gr w2 w4):=Lib.hid (H3.out.2.2.2.trans H4.out.2);have hR4:R2<w4.heap.size:=Nat.lt_of_lt_of_le hR2w G24.out.size;replace x1:=bc G24.out hR2w x1;replace x2:=bc G24.out hR2w x2;clear HSC HRU;go_wp2
  go_loopw [11] (λi wr=>∃k:Nat,k<=n/\i= .int .i64 k/\Hid (Gr w4 wr)) (λi _=>n-(intOf i).toNat)
  case atStart=>exact ⟨0,Nat.zero_le _,rfl,Lib.hid (Gr.refl _)⟩
  case round=>
   obtain ⟨k,hk,rfl,HG⟩:=hrel;replace x1:=bc HG.out hR4 x1;replace x2:=bc HG.out hR4 x2;have hRr:R2<wr.heap.size:=Nat.lt_of_lt_of_le hR4 HG.out.size;by_cases hlt:k<n
   ·have hki:(k:Int)<(n:Int):=by omega
    have h0n:0<n:=by omega
    obtain ⟨g3,hA3,hg3,hc3⟩:=H3.out.2.1 h0n;obtain ⟨gq,hAq,hgq,hcq⟩:=HRQ.out h0n;subst hA3 hAq;have hln:=HSL.out.2.2.1;have hqm:q.map Qs.p=lq.map Qs.p:=by rw[H3.out.1,HOM.out.1];exact HR1.out.2.1
    have hqn:q.length=n:=by
     have:=congrArg List.length hqm;rw[List.length_map,List.length_map] at this;omega
    obtain ⟨a0,a1⟩:=qscells_at q k (by omega);obtain ⟨b0,b1⟩:=qscells_at lq k (by omega);obtain ⟨s,hs⟩:∃s,s=q[k]'(by omega):=⟨_,rfl⟩
    obtain ⟨z,hz⟩:∃z,z=lq[k]'(by omega):=⟨_,rfl⟩
    have hsz:s.p=z.p:=by
     have h1:(q.map Qs.p)[k]'(by rw[List.length_map];omega)=(lq.map Qs.p)[k]'(by rw[List.length_map];omega):=by simp only[hqm]
     rw[List.getElem_map,List.getElem_map] at h1;rw[hs,hz];exact h1
    have hsm:s∈q:=by rw[hs];exact List.getElem_mem _
    have hzm:z∈lq:=by rw[hz];exact List.getElem_mem _
    have hpe:s.pat=z.pat:=pat_eq (congrArg SR.pat hsz);have hae:s.ar=z.ar:=congrArg SR.ar hsz;rw[<-hs] at a0 a1;rw[<-hz] at b0 b1;rw[hpe] at a0;rw[hae] at a1;have g3r:=H4.out.2.trans HG.out;have g2r:=G24.out.trans HG.out;replace a0:=bc g3r hg3 (hc3 _ _ a0);replace a1:=bc g3r hg3 (hc3 _ _ a1);replace b0:=bc g2r hgq (hcq _ _ b0);replace b1:=bc g2r hgq (hcq _ _ b1);have hg3r:g3<wr.heap.size:=Nat.lt_of_lt_of_le hg3 g3r.size;have hgqr:gq<wr.heap.size:=Nat.lt_of_lt_of_le hgq g2r.size;have hA:=HA2.out z hzm;have HAS:=Lib.hid (λW (g:Gr wr W)=>archives_same s.A z.A s.c z.c z.ar (by omega) hA.2 W (Ra.gr (by rw[<-hae];exact H3.out.2.2.1 s hsm) (g3r.trans g)) (Ra.gr (HRA.out z hzm) (g2r.trans g)));clear hc3 hcq hln hqm hqn hs hz hsz hsm hzm hpe hae g3r g2r hA hg3 hgq h0n hlt;go_upto_region 15 with (fail)
    refine region_R (by kernel_rfl) (by kernel_rfl) ?_;(iterate 4 refine rv ?_);refine rv ?_ (h:=λW hW=>by have a0:=bc hW hg3r a0;go_light;go_simp<;>rfl);(iterate 3 refine rv ?_);refine rv ?_ (h:=λW hW=>by have x1:=bc hW hRr x1;go_light;go_simp<;>rfl);(iterate 3 refine rv ?_);refine rv ?_ (h:=λW hW=>by have b0:=bc hW hgqr b0;go_light;go_simp<;>rfl);(iterate 6 refine rv ?_);refine rv ?_ (h:=λW hW=>by have a1:=bc hW hg3r a1;go_light;go_simp<;>rfl);(iterate 3 refine rv ?_);refine rv ?_ (h:=λW hW=>by have x1:=bc hW hRr x1;go_light;go_simp<;>rfl);(iterate 3 refine rv ?_);refine rv ?_ (h:=λW hW=>by have b1:=bc hW hgqr b1;go_light;go_simp<;>rfl);refine rc (.bool true) (λW hW=>HAS.out W hW) ?_;(iterate 2 refine rv ?_);refine r_nil ?_;intro w8 hw8;clear a0 a1 b0 b1 x1 x2 hRr hg3r hgqr;go_wp2;go_roundw;case rel=>exact ⟨k+1,by omega,by go_num,Lib.hid (HG.out.trans hw8)⟩
    case measure=>simp[intOf];omega
   ·have hge:¬(k:Int)<(n:Int):=by omega
    obtain ⟨u,rfl⟩:∃u,u=wr:=⟨_,rfl⟩
    clear hlt;go_wp2
    go_loopw [12] (λi wr=>∃k:Nat,k<=k0/\i= .int .i64 k/\Hid (Gr u wr)) (λi _=>k0-(intOf i).toNat)
    case atStart=>exact ⟨0,Nat.zero_le _,rfl,Lib.hid (Gr.refl _)⟩
    case round=>
     obtain ⟨k,hk,rfl,HG2⟩:=hrel;by_cases hlt:k<k0
     ·have hki:(k:Int)<(k0:Int):=by omega
      have h0n:0<k0:=by omega
      replace x2:=bc HG2.out hRr x2;replace hRr:R2<wr.heap.size:=Nat.lt_of_lt_of_le hRr HG2.out.size;obtain ⟨g4,hA4,hg4,hc4⟩:=H4.out.1 h0n;obtain ⟨gp,hAp,hgp,hcp⟩:=HRP.out h0n;subst hA4 hAp;have hmk:=HSL.out.2.2.2.1;have hmq:=HSL.out.2.2.2.2;obtain ⟨b0,b1,b2⟩:=qrcells_at mq k (by omega);obtain ⟨z,hz⟩:∃z,z=mq[k]'(by omega):=⟨_,rfl⟩
      rw[<-hz] at b0 b1 b2;rw[hmq] at hc4;have g4r:=HG.out.trans HG2.out;have g2r:=G24.out.trans g4r;have a0:=bc g4r hg4 (hc4 _ _ b0);have a1:=bc g4r hg4 (hc4 _ _ b1);have a2:=bc g4r hg4 (hc4 _ _ b2);replace b0:=bc g2r hgp (hcp _ _ b0);replace b1:=bc g2r hgp (hcp _ _ b1);replace b2:=bc g2r hgp (hcp _ _ b2);have hg4r:g4<wr.heap.size:=Nat.lt_of_lt_of_le hg4 g4r.size;have hgpr:gp<wr.heap.size:=Nat.lt_of_lt_of_le hgp g2r.size;clear hc4 hcp hmk hmq hz g4r g2r hg4 hgp h0n hlt x1;go_upto_region 20 with (fail)
      refine region_R (by kernel_rfl) (by kernel_rfl) ?_;(iterate 3 refine rv ?_);refine rv ?_ (h:=λW hW=>by have a0:=bc hW hg4r a0;have a1:=bc hW hg4r a1;have a2:=bc hW hg4r a2;go_light;go_simp<;>rfl);(iterate 3 refine rv ?_);refine rv ?_ (h:=λW hW=>by have x2:=bc hW hRr x2;go_light;go_simp<;>rfl);(iterate 2 refine rv ?_);refine rv ?_ (h:=λW hW=>by have b0:=bc hW hgpr b0;have b1:=bc hW hgpr b1;have b2:=bc hW hgpr b2;go_light;go_simp<;>rfl);refine rv ?_;refine r_nil ?_;intro w8 hw8;clear a0 a1 a2 b0 b1 b2 x2 hRr hg4r hgpr;go_wp2;go_roundw;case rel=>exact ⟨k+1,by omega,by go_num,Lib.hid (HG2.out.trans hw8)⟩
      case measure=>simp[intOf];omega
     ·have hge:¬(k:Int)<(k0:Int):=by omega
      have HW2:Hid (Gr w2 wr):=Lib.hid (G24.out.trans (HG.out.trans HG2.out));have HW1:Hid (Gr w1 wr):=Lib.hid (G12.out.trans HW2.out);have HWw:Hid (Gr w wr):=Lib.hid (G1.out.trans HW1.out);have HC1:=Lib.hid (HH1.out wr HW1.out);have HAR:Hid (∀k x ar,hdrR st nm.data.toList=some (k,x,ar)->ar.length<=8):=Lib.hid λk x ar e=>hdr_le hok.out e;clear x1 x2 hRr hR4 hR2w hlt HRQ HRP HRA H3 H4 HSL HH1 HR1 HR2 HOM hok HA2 hnl hkl;cases hh:hdrR st nm.data.toList with
      | none=>
       rw[hh] at HC1 HH2;have HSM:Hid (∀W,Calls Tryz.prog 8 #[.agg #[.int .i64 0, .int .i64 0, .slice none 0 0], .agg #[.int .i64 0, .int .i64 0, .slice none 0 0]] W λe w'=>e= .returned (.bool true)/\Gr W w'):=Lib.hid λW=>headers_sameK 0 0 none none 0 0 [] (by decide) W (Ra.nil _ _) (Ra.nil _ _);clear hh;go_upto_region 23 with (go_at_call 7;refine HC1.out.mono ?_;rintro e w5 ⟨rfl,g5⟩)
       obtain ⟨w5a,h5a⟩:∃w5a,w5a=w5.alloc (.cells #[.int .i64 0, .int .i64 0, .slice none 0 0] 29):=⟨_,rfl⟩
       have g5a:Gr wr w5a:=by rw[h5a];exact g5.alloc _
       have c0:w5a.cell? ⟨w5.heap.size,0,none⟩=some (.int .i64 0):=by rw[h5a];go_simp
       have c1:w5a.cell? ⟨w5.heap.size,1,none⟩=some (.int .i64 0):=by rw[h5a];go_simp
       have c2:w5a.cell? ⟨w5.heap.size,2,none⟩=some (.slice none 0 0):=by rw[h5a];go_simp
       have hz5:w5.heap.size<w5a.heap.size:=by rw[h5a];simp
       have HC2:=Lib.hid (HH2.out w5a (HW2.out.trans g5a));have HW5:=Lib.hid (HWw.out.trans g5a);rw[<-h5a];obtain ⟨b5,hb5⟩:∃b5,b5=w5.heap.size:=⟨_,rfl⟩
       rw[<-hb5] at c0 c1 c2 hz5 ⊢;clear h5a hb5 g5 g5a;go_upto_region 24 with (go_at_call 15;refine HC2.out.mono ?_;rintro e w7 ⟨rfl,g7⟩;replace c0:=bc g7 hz5 c0;replace c1:=bc g7 hz5 c1;replace c2:=bc g7 hz5 c2;replace hz5:b5<w7.heap.size:=Nat.lt_of_lt_of_le hz5 g7.size)
       obtain ⟨w7a,h7a⟩:∃w7a,w7a=w7.alloc (.cells #[.int .i64 0, .int .i64 0, .slice none 0 0] 29):=⟨_,rfl⟩
       have g7a:Gr w5a w7a:=by rw[h7a];exact g7.alloc _
       have gww:Gr w7 w7a:=by rw[h7a];exact Gr.alloc (Gr.refl _) _
       have d0:w7a.cell? ⟨w7.heap.size,0,none⟩=some (.int .i64 0):=by rw[h7a];go_simp
       have d1:w7a.cell? ⟨w7.heap.size,1,none⟩=some (.int .i64 0):=by rw[h7a];go_simp
       have d2:w7a.cell? ⟨w7.heap.size,2,none⟩=some (.slice none 0 0):=by rw[h7a];go_simp
       replace c0:=bc gww hz5 c0;replace c1:=bc gww hz5 c1;replace c2:=bc gww hz5 c2;have hz7:w7.heap.size<w7a.heap.size:=by rw[h7a];simp
       replace hz5:b5<w7a.heap.size:=Nat.lt_of_lt_of_le hz5 gww.size;have HW7:=Lib.hid (HW5.out.trans g7a);rw[<-h7a];obtain ⟨b7,hb7⟩:∃b7,b7=w7.heap.size:=⟨_,rfl⟩
       rw[<-hb7] at d0 d1 d2 hz7 ⊢;clear h7a hb7 g7 g7a gww;go_wp2_with (first|(go_at_call 8;refine (HSM.out _).mono ?_;rintro e w9 ⟨rfl,g9⟩;have G9:=Lib.hid g9;clear g9)|(go_at_call 9;refine (known25_any _ (HM.out.gr (HW7.out.trans G9.out))).mono ?_;rintro e wz ⟨rfl,gz⟩;have GZ:=Lib.hid gz;clear gz));go_ret;exact ⟨rfl,(HW7.out.trans G9.out).trans GZ.out⟩
      | some kxa=>
       obtain ⟨kd,xf,ar⟩:=kxa;rw[hh] at HC1 HH2;have har:(ar.length:Int)<=1000:=by have:=HAR.out _ _ _ hh;omega
       clear hh;go_upto_region 23 with (go_at_call 7;refine HC1.out.mono ?_;rintro e w5 ⟨A5,c5,rfl,hra5,g5⟩)
       obtain ⟨w5a,h5a⟩:∃w5a,w5a=w5.alloc (.cells #[.int .i64 kd, .int .i64 xf, .slice A5 ar.length c5] 29):=⟨_,rfl⟩
       have g5a:Gr wr w5a:=by rw[h5a];exact g5.alloc _
       have c0:w5a.cell? ⟨w5.heap.size,0,none⟩=some (.int .i64 kd):=by rw[h5a];go_simp
       have c1:w5a.cell? ⟨w5.heap.size,1,none⟩=some (.int .i64 xf):=by rw[h5a];go_simp
       have c2:w5a.cell? ⟨w5.heap.size,2,none⟩=some (.slice A5 ar.length c5):=by rw[h5a];go_simp
       have hz5:w5.heap.size<w5a.heap.size:=by rw[h5a];simp
       have HC2:=Lib.hid (HH2.out w5a (HW2.out.trans g5a));have HW5:=Lib.hid (HWw.out.trans g5a);have hra5a:Ra w5a A5 ar:=by rw[h5a];exact Ra.gr hra5 (Gr.alloc (Gr.refl _) _)
       have HRA5:=Lib.hid hra5a;clear hra5 hra5a;rw[<-h5a];obtain ⟨b5,hb5⟩:∃b5,b5=w5.heap.size:=⟨_,rfl⟩
       rw[<-hb5] at c0 c1 c2 hz5 ⊢;clear h5a hb5 g5 g5a;go_upto_region 24 with (go_at_call 15;refine HC2.out.mono ?_;rintro e w7 ⟨A7,c7,rfl,hra7,g7⟩;replace c0:=bc g7 hz5 c0;replace c1:=bc g7 hz5 c1;replace c2:=bc g7 hz5 c2;replace hz5:b5<w7.heap.size:=Nat.lt_of_lt_of_le hz5 g7.size)
       obtain ⟨w7a,h7a⟩:∃w7a,w7a=w7.alloc (.cells #[.int .i64 kd, .int .i64 xf, .slice A7 ar.length c7] 29):=⟨_,rfl⟩
       have g7a:Gr w5a w7a:=by rw[h7a];exact g7.alloc _
       have gww:Gr w7 w7a:=by rw[h7a];exact Gr.alloc (Gr.refl _) _
       have d0:w7a.cell? ⟨w7.heap.size,0,none⟩=some (.int .i64 kd):=by rw[h7a];go_simp
       have d1:w7a.cell? ⟨w7.heap.size,1,none⟩=some (.int .i64 xf):=by rw[h7a];go_simp
       have d2:w7a.cell? ⟨w7.heap.size,2,none⟩=some (.slice A7 ar.length c7):=by rw[h7a];go_simp
       replace c0:=bc gww hz5 c0;replace c1:=bc gww hz5 c1;replace c2:=bc gww hz5 c2;have hz7:w7.heap.size<w7a.heap.size:=by rw[h7a];simp
       replace hz5:b5<w7a.heap.size:=Nat.lt_of_lt_of_le hz5 gww.size;have HW7:=Lib.hid (HW5.out.trans g7a);have hra7a:=Ra.gr hra7 gww;have HRA7:=Lib.hid hra7a;have G67:=Lib.hid g7a;clear hra7 hra7a;rw[<-h7a];obtain ⟨b7,hb7⟩:∃b7,b7=w7.heap.size:=⟨_,rfl⟩
       rw[<-hb7] at d0 d1 d2 hz7 ⊢;clear h7a hb7 g7 g7a gww;have HSM:Hid (∀W,Gr w7a W->Calls Tryz.prog 8 #[.agg #[.int .i64 kd, .int .i64 xf, .slice A5 ar.length c5], .agg #[.int .i64 kd, .int .i64 xf, .slice A7 ar.length c7]] W λe w'=>e= .returned (.bool true)/\Gr W w'):=Lib.hid λW g=>headers_sameK kd xf A5 A7 c5 c7 ar har W (Ra.gr HRA5.out (G67.out.trans g)) (Ra.gr HRA7.out g);go_wp2_with (first|(go_at_call 8;refine (HSM.out _ (Gr.refl _)).mono ?_;rintro e w9 ⟨rfl,g9⟩;have G9:=Lib.hid g9;clear g9)|(go_at_call 9;refine (known25_any _ (HM.out.gr (HW7.out.trans G9.out))).mono ?_;rintro e wz ⟨rfl,gz⟩;have GZ:=Lib.hid gz;clear gz));go_ret;exact ⟨rfl,(HW7.out.trans G9.out).trans GZ.out⟩
open Go
theorem handed_laid {H:Type} {enc:TypeId×Value->H} {a:Assume} {C:Checked} {os:Os} {f:FuncId} {fn:Func} {s:ChangeSpec} {conds:List PathCond} {apart fresh handsOn again:Bool} {X:World->Array Value->Prop}
  (hX:∀(w w':World) (args:Array Value),w.heap=w'.heap->X w args->X w' args)
  (own:ownKnob C.prog.godebug=none) (started:os.Started) (noInit:C.prog.inits.idxOf? f=none) (hfn:C.prog.funcs[f]?=some fn)
  (wit:∃(w:World) (tape:Tape) (i:Input),w.os=os/\(w.forCall tape i).Shaped C.prog/\i.vars=[]/\Input.okWide C.prog (w.forCall tape i) .any w.heap.size f i/\
   ((s.pre enc C.prog fn conds apart (w.forCall tape i).memory i.args/\X (w.forCall tape i).memory i.args)/\sizedMet enc C.prog fn (OpenSpec.ofChange s) apart (w.forCall tape i).memory i.args)/\a.holds C.prog (Go.lone (Frame.enter C.prog f i.args .normal) [] (w.forCall tape i)))
  (walk:∀(W:World) (base:Nat) (args:Array Value) (ds gs:List (DataW H)) (before:List MemPlace),
   (∀(j:Nat) t v,fn.params[j]?=some t->args[j]?=some v->Value.okWide C.prog W .any base t v)->
   DataW.Whole enc C.prog fn.params.toList s.vars apart W args.toList ds gs before->
   X W args->W.ShapedOpen C.prog->
   Calls C.prog f args W λe W'=>∃v,e= .returned v/\s.post enc C.prog fn apart fresh handsOn again W args v W') :
  ReturnsInHanded a C os f .any (λw args=>(s.pre enc C.prog fn conds apart w args/\X w args)/\sizedMet enc C.prog fn (OpenSpec.ofChange s) apart w args) (s.post enc C.prog fn apart fresh handsOn again):=by
 refine returnsInHanded_of_calls own started noInit wit λw tape i _ shape _ ok pre _=>?_;obtain ⟨_,_,_,fn',hfn',_,_,_,_,val⟩:=ok;obtain rfl:fn'=fn:=Option.some.inj (hfn'.symm.trans hfn);obtain ⟨⟨⟨ds,gs,before,whole,_⟩,x⟩,_⟩:=pre;refine (walk (w.forCall tape i) w.heap.size i.args ds gs before val (DataW.Whole.of_heap (w':=w.forCall tape i) (by rfl) whole) (hX _ _ _ (by rfl) x) shape).mono ?_;rintro e W' ⟨v,rfl,p⟩;exact ChangeSpec.post_blind p
theorem ml_shaped {W:World} (h:W.ShapedOpen Tryz.prog):Ml W:=
 cell_of_shapedOpen_int (t:=3) (zero:= #[.int .i64 0]) h (of_decide_eq_true (by kernel_rfl)) (by kernel_rfl) rfl (by kernel_rfl) (by kernel_rfl) Tryz.underlying3
end Go.Proofs.YtjapddfnpmlifaaGreatDoor
