import Derived.Test.YtjapddfnpmlifaaGreatDoorRunRuFit
set_option linter.all false
set_option maxRecDepth 1000000
set_option maxHeartbeats 12800000
namespace Go.Proofs.YtjapddfnpmlifaaGreatDoor
open Go.RowKit
theorem whead_check (A:Option Addr) (c:Nat) (l:List (Nat×Nat)) (hn:∀a∈l,a.1<=maxN/\a.2<=maxN) (hll:l.length<=400) (w:World) (hr:Ra w A l):Calls Tryz.prog 39 #[.agg #[.int .i64 1, .int .i64 0, .slice A l.length c]] w λe w'=>e= .returned (.int .i64 (bif mayS l then 0 else 1))/\Gr w w':=by
 obtain ⟨V,hV⟩:∃V,V=w.alloc (.cells #[.int .i64 1, .int .i64 0, .slice A l.length c] 29):=⟨_,rfl⟩
 have gV:Gr w V:=by rw[hV];exact Gr.alloc (Gr.refl w) _
 have hz:w.heap.size<V.heap.size:=by rw[hV];simp
 have c0:V.cell? ⟨w.heap.size,0,none⟩=some (.int .i64 1):=by rw[hV];go_simp
 have c1:V.cell? ⟨w.heap.size,1,none⟩=some (.int .i64 0):=by rw[hV];go_simp
 have c2:V.cell? ⟨w.heap.size,2,none⟩=some (.slice A l.length c):=by rw[hV];go_simp
 have HV:=Lib.hid hV;have HG:=Lib.hid gV;have HR:=Lib.hid (hr.gr gV);have HN:=Lib.hid hn;clear hV gV hr hn;rcases Nat.eq_zero_or_pos l.length with h0|h0
 ·have hM:=mayS_len (.inl h0);have HM:=Lib.hid hM;clear hM;have h1:(l.length:Int)<1:=by omega
  clear h0;go_enter Tryz.func39,Tryz.ntmps39;go_upto_region 1 with (fail)
  rw[<-HV.out];clear HV;go_wp2;go_ret;exact ⟨by rw[HM.out];rfl,HG.out⟩
 rcases Nat.lt_or_ge 8 l.length with h8|h8
 ·have hM:=mayS_len (.inr h8);have HM:=Lib.hid hM;clear hM;have h1:¬(l.length:Int)<1:=by omega
  have h2:(8:Int)<(l.length:Int):=by omega
  clear h0 h8;go_enter Tryz.func39,Tryz.ntmps39;go_upto_region 1 with (fail)
  rw[<-HV.out];clear HV;go_wp2;go_ret;exact ⟨by rw[HM.out];rfl,HG.out⟩
 have h1:¬(l.length:Int)<1:=by omega
 have h2:¬(8:Int)<(l.length:Int):=by omega
 have H8:=Lib.hid (And.intro h0 h8);clear h0 h8;go_enter Tryz.func39,Tryz.ntmps39;go_upto_region 1 with (fail)
 rw[<-HV.out];clear HV;go_upto_region 3 with (fail)
 go_wp2
 go_loopw [39] (λi wr=>∃k:Nat,k<=l.length/\i= .int .i64 k/\(∀j,j<k->stepOk l j=true)/\Gr V wr) (λi _=>l.length-(intOf i).toNat)
 case atStart=>exact ⟨0,Nat.zero_le _,rfl,λj hj=>absurd hj (Nat.not_lt_zero _),Gr.refl _⟩
 case round=>
  obtain ⟨k,hk,rfl,hall,hgr⟩:=hrel;have Hall:=Lib.hid hall;have Hgr:=Lib.hid hgr;have hzw:w.heap.size<wr.heap.size:=Nat.lt_of_lt_of_le hz hgr.size;have c2':=bc hgr hz c2;clear hall c2;have c2:=c2';clear c2';by_cases hlt:k<l.length
  ·have hlt':(k:Int)<(l.length:Int):=by omega
   obtain ⟨b,rfl,hb,hc⟩:=(HR.out.gr hgr) (by omega)
   obtain ⟨d0,d1⟩:=hc k hlt;have Hc:=Lib.hid hc;have hn:=HN.out l[k] (List.getElem_mem hlt);have hst:=stepOk_at hlt;have hgr0:=Hgr;clear hc hgr;obtain ⟨x1,hx1⟩:∃x,x=l[k].1:=⟨_,rfl⟩
   obtain ⟨x2,hx2⟩:∃x,x=l[k].2:=⟨_,rfl⟩
   have hx:l[k]=(x1,x2):=by rw[hx1,hx2]
   rw[<-hx1] at d0 hn;rw[<-hx2] at d1 hn;rw[hx] at hst;have Hst:=Lib.hid (And.intro hx hst);have hn1:(x1:Int)<=4611686018427387904:=by have:=hn.1;unfold maxN at this;omega
   have hn2:(x2:Int)<=4611686018427387904:=by have:=hn.2;unfold maxN at this;omega
   clear hx1 hx2 hx hst hn;go_upto_region 6 with (fail)
   obtain ⟨wB,hwB⟩:∃wB,wB=wr.alloc (.cells #[.int .i64 x1, .int .i64 x2] 34):=⟨_,rfl⟩
   have gB:Gr wr wB:=by rw[hwB];exact Gr.alloc (Gr.refl wr) _
   have hz4:wr.heap.size<wB.heap.size:=by rw[hwB];simp
   have e0:wB.cell? ⟨wr.heap.size,0,none⟩=some (.int .i64 x1):=by rw[hwB];go_simp
   have e1:wB.cell? ⟨wr.heap.size,1,none⟩=some (.int .i64 x2):=by rw[hwB];go_simp
   rw[<-hwB];have hbw:b<wB.heap.size:=Nat.lt_of_lt_of_le hb gB.size;have c2':=bc gB hzw c2;have hzw':=Nat.lt_of_lt_of_le hzw gB.size;have Hc':Hid (∀j (h:j<l.length),wB.cell? ⟨b,j*2,none⟩=some (.int .i64 (l[j].1:Nat))/\wB.cell? ⟨b,j*2+1,none⟩=some (.int .i64 (l[j].2:Nat))):=Lib.hid λj h=>⟨(bc gB hb (Hc.out j h).1),(bc gB hb (Hc.out j h).2)⟩
   have HgB:=Lib.hid (hgr0.out.trans gB);generalize wr.heap.size=B4 at hz4 e0 e1 ⊢;clear hwB c0 c1 c2 hzw d0 d1 hb Hc gB;have c2:=c2';have hzw:=hzw';clear c2' hzw';by_cases m1:x1<1
   ·have HM:Hid (mayS l=false):=Lib.hid (mayS_step hlt (by rw[Hst.out.2,one_no (.inl m1)];rfl));have t1:(x1:Int)<1:=by omega
    have t2:decide ((x1:Int)<1)=true:=decide_eq_true t1;clear Hst hlt m1;refine region_R (by kernel_rfl) (by kernel_rfl) ?_;refine rv ?_;refine rv ?_ (h:=λW hW=>by have g:=bc hW hz4 e0;go_light;go_simp<;>rfl);(iterate 2 refine rv ?_);(iterate 3 refine rs ?_);(iterate 2 refine rv ?_);(iterate 3 refine rs ?_);(iterate 2 refine rv ?_);(iterate 3 refine rs ?_);(iterate 2 refine rv ?_);(iterate 13 refine rs ?_);refine rv ?_;refine r_nil ?_;intro w8 hw8;have HW9:=Lib.hid hw8;clear hw8;go_wp2;go_ret;exact ⟨by rw[HM.out];rfl,(HG.out.trans HgB.out).trans HW9.out⟩
   by_cases m2:16777216<x1
   ·have HM:Hid (mayS l=false):=Lib.hid (mayS_step hlt (by rw[Hst.out.2,one_no (.inr (.inl m2))];rfl));have t1:¬(x1:Int)<1:=by omega
    have t2:(16777216:Int)<(x1:Int):=by omega
    have t3:decide ((x1:Int)<1)=false:=decide_eq_false t1;have t4:decide ((16777216:Int)<(x1:Int))=true:=decide_eq_true t2;clear Hst hlt m1 m2;refine region_R (by kernel_rfl) (by kernel_rfl) ?_;refine rv ?_;refine rv ?_ (h:=λW hW=>by have g:=bc hW hz4 e0;go_light;go_simp<;>rfl);(iterate 3 refine rv ?_);refine rv ?_ (h:=λW hW=>by have g:=bc hW hz4 e0;go_light;go_simp<;>rfl);(iterate 3 refine rv ?_);(iterate 3 refine rs ?_);(iterate 2 refine rv ?_);(iterate 3 refine rs ?_);(iterate 2 refine rv ?_);(iterate 13 refine rs ?_);refine rv ?_;refine r_nil ?_;intro w8 hw8;have HW9:=Lib.hid hw8;clear hw8;go_wp2;go_ret;exact ⟨by rw[HM.out];rfl,(HG.out.trans HgB.out).trans HW9.out⟩
   by_cases m3:x2<1
   ·have HM:Hid (mayS l=false):=Lib.hid (mayS_step hlt (by rw[Hst.out.2,one_no (.inr (.inr (.inl m3)))];rfl));have t1:¬(x1:Int)<1:=by omega
    have t2:¬(16777216:Int)<(x1:Int):=by omega
    have t5:(x2:Int)<1:=by omega
    have t3:decide ((x1:Int)<1)=false:=decide_eq_false t1;have t4:decide ((16777216:Int)<(x1:Int))=false:=decide_eq_false t2;have t6:decide ((x2:Int)<1)=true:=decide_eq_true t5;clear Hst hlt m1 m2 m3;refine region_R (by kernel_rfl) (by kernel_rfl) ?_;refine rv ?_;refine rv ?_ (h:=λW hW=>by have g:=bc hW hz4 e0;go_light;go_simp<;>rfl);(iterate 3 refine rv ?_);refine rv ?_ (h:=λW hW=>by have g:=bc hW hz4 e0;go_light;go_simp<;>rfl);(iterate 4 refine rv ?_);refine rv ?_ (h:=λW hW=>by have g:=bc hW hz4 e1;go_light;go_simp<;>rfl);(iterate 3 refine rv ?_);(iterate 3 refine rs ?_);(iterate 2 refine rv ?_);(iterate 13 refine rs ?_);refine rv ?_;refine r_nil ?_;intro w8 hw8;have HW9:=Lib.hid hw8;clear hw8;go_wp2;go_ret;exact ⟨by rw[HM.out];rfl,(HG.out.trans HgB.out).trans HW9.out⟩
   have t1:¬(x1:Int)<1:=by omega
   have t2:¬(16777216:Int)<(x1:Int):=by omega
   have t5:¬(x2:Int)<1:=by omega
   have t3:decide ((x1:Int)<1)=false:=decide_eq_false t1;have t4:decide ((16777216:Int)<(x1:Int))=false:=decide_eq_false t2;have t6:decide ((x2:Int)<1)=false:=decide_eq_false t5;by_cases m4:16777216<x2
   ·have HM:Hid (mayS l=false):=Lib.hid (mayS_step hlt (by rw[Hst.out.2,one_no (.inr (.inr (.inr m4)))];rfl));have t7:(16777216:Int)<(x2:Int):=by omega
    have t8:decide ((16777216:Int)<(x2:Int))=true:=decide_eq_true t7;clear Hst hlt m1 m2 m3 m4;refine region_R (by kernel_rfl) (by kernel_rfl) ?_;refine rv ?_;refine rv ?_ (h:=λW hW=>by have g:=bc hW hz4 e0;go_light;go_simp<;>rfl);(iterate 3 refine rv ?_);refine rv ?_ (h:=λW hW=>by have g:=bc hW hz4 e0;go_light;go_simp<;>rfl);(iterate 4 refine rv ?_);refine rv ?_ (h:=λW hW=>by have g:=bc hW hz4 e1;go_light;go_simp<;>rfl);(iterate 4 refine rv ?_);refine rv ?_ (h:=λW hW=>by have g:=bc hW hz4 e1;go_light;go_simp<;>rfl);(iterate 3 refine rv ?_);(iterate 13 refine rs ?_);refine rv ?_;refine r_nil ?_;intro w8 hw8;have HW9:=Lib.hid hw8;clear hw8;go_wp2;go_ret;exact ⟨by rw[HM.out];rfl,(HG.out.trans HgB.out).trans HW9.out⟩
   have t7:¬(16777216:Int)<(x2:Int):=by omega
   have t8:decide ((16777216:Int)<(x2:Int))=false:=decide_eq_false t7;have hone:oneOk (x1,x2)=true:=oneOk_iff.2 ⟨by simp only;omega,by simp only;omega,by simp only;omega,by simp only;omega⟩;have Hone:=Lib.hid hone;rcases k with _|j
   ·have HT:Hid (stepOk l 0=true):=Lib.hid (by rw[Hst.out.2,hone];rfl);clear hone m1 m2 m3 m4;have z1:decide ((0:Int)<((0:Nat):Int))=false:=by decide
    refine region_R (by kernel_rfl) (by kernel_rfl) ?_;refine rv ?_;refine rv ?_ (h:=λW hW=>by have g:=bc hW hz4 e0;go_light;go_simp<;>rfl);(iterate 3 refine rv ?_);refine rv ?_ (h:=λW hW=>by have g:=bc hW hz4 e0;go_light;go_simp<;>rfl);(iterate 4 refine rv ?_);refine rv ?_ (h:=λW hW=>by have g:=bc hW hz4 e1;go_light;go_simp<;>rfl);(iterate 4 refine rv ?_);refine rv ?_ (h:=λW hW=>by have g:=bc hW hz4 e1;go_light;go_simp<;>rfl);(iterate 6 refine rv ?_);(iterate 9 refine rs ?_);(iterate 2 refine rv ?_);refine r_nil ?_;intro w8 hw8;have e1a:=bc hw8 hz4 e1;have hz8:=Nat.lt_of_lt_of_le hz4 hw8.size;have c2a:=bc hw8 hzw c2;have H8w:=Lib.hid (HgB.out.trans hw8);clear e0 e1 c2 hz4 hw8;go_wp2;go_roundw;case rel=>exact ⟨0+1,by omega,by go_num,(λi hi=>by rcases Nat.lt_succ_iff_lt_or_eq.1 hi with h|h;exact Hall.out i h;rw[h];exact HT.out),H8w.out⟩
    case measure=>simp[intOf];omega
   ·have hj:j<l.length:=by omega
    obtain ⟨p0,p1⟩:=Hc'.out j hj;have hone1:oneOk l[j]=true:=by
     have:=Hall.out j (Nat.lt_succ_self _);rw[stepOk_at hj,Bool.and_eq_true] at this;exact this.1
    obtain ⟨y,hy⟩:∃y,y=l[j]:=⟨_,rfl⟩
    have hst:=Hst.out.2;simp only[Nat.add_sub_cancel] at hst;rw[<-hy] at hone1 p0 p1 hst;obtain ⟨F,hF⟩:∃F,F=fitsS y (x1,x2):=⟨_,rfl⟩
    have hst2:stepOk l (j+1)=F:=by rw[hst,hone,hF];simp
    have hcall:=λW=>whead_fits y (x1,x2) hone1 hone W;rw[<-hF] at hcall;obtain ⟨y1,y2⟩:=y;simp only at p0 p1 hcall;have HCALL:=Lib.hid hcall;have HST:=Lib.hid hst2;have z1:decide ((0:Int)<(j:Int)+1)=true:=by rw[decide_eq_true_eq];omega
    have z2:(0:Int)<(j:Int)+1:=by omega
    have hji:(j:Int)<=400:=by omega
    have zw:IntKind.i64.wrap (j:Int)=(j:Int):=IntWalk.i64_in (j:Int) (by omega);have hjl:(j:Int)<(l.length:Int):=by omega
    clear hone hone1 hF hst hst2 hcall hy hj m1 m2 m3 m4;cases F with
    | false=>
     have HM:Hid (mayS l=false):=Lib.hid (mayS_step hlt HST.out);clear Hst hlt;refine region_R (by kernel_rfl) (by kernel_rfl) ?_;refine rv ?_;refine rv ?_ (h:=λW hW=>by have g:=bc hW hz4 e0;go_light;go_simp<;>rfl);(iterate 3 refine rv ?_);refine rv ?_ (h:=λW hW=>by have g:=bc hW hz4 e0;go_light;go_simp<;>rfl);(iterate 4 refine rv ?_);refine rv ?_ (h:=λW hW=>by have g:=bc hW hz4 e1;go_light;go_simp<;>rfl);(iterate 4 refine rv ?_);refine rv ?_ (h:=λW hW=>by have g:=bc hW hz4 e1;go_light;go_simp<;>rfl);(iterate 7 refine rv ?_);refine rv ?_ (h:=λW hW=>by have g:=bc hW hzw c2;go_light;go_simp<;>rfl);(iterate 3 refine rv ?_);refine rv ?_ (h:=λW hW=>by have g:=bc hW hbw p0;have g2:=bc hW hbw p1;go_light;go_simp<;>rfl);refine rv ?_ (h:=λW hW=>by have g:=bc hW hz4 e0;have g2:=bc hW hz4 e1;go_light;go_simp<;>rfl);refine rc (.bool false) (λW hW=>HCALL.out _) ?_;(iterate 3 refine rv ?_);refine r_nil ?_;intro w8 hw8;have HW9:=Lib.hid hw8;clear hw8;go_wp2;go_ret;exact ⟨by rw[HM.out];rfl,(HG.out.trans HgB.out).trans HW9.out⟩
    | true=>
     refine region_R (by kernel_rfl) (by kernel_rfl) ?_;refine rv ?_;refine rv ?_ (h:=λW hW=>by have g:=bc hW hz4 e0;go_light;go_simp<;>rfl);(iterate 3 refine rv ?_);refine rv ?_ (h:=λW hW=>by have g:=bc hW hz4 e0;go_light;go_simp<;>rfl);(iterate 4 refine rv ?_);refine rv ?_ (h:=λW hW=>by have g:=bc hW hz4 e1;go_light;go_simp<;>rfl);(iterate 4 refine rv ?_);refine rv ?_ (h:=λW hW=>by have g:=bc hW hz4 e1;go_light;go_simp<;>rfl);(iterate 7 refine rv ?_);refine rv ?_ (h:=λW hW=>by have g:=bc hW hzw c2;go_light;go_simp<;>rfl);(iterate 3 refine rv ?_);refine rv ?_ (h:=λW hW=>by have g:=bc hW hbw p0;have g2:=bc hW hbw p1;go_light;go_simp<;>rfl);refine rv ?_ (h:=λW hW=>by have g:=bc hW hz4 e0;have g2:=bc hW hz4 e1;go_light;go_simp<;>rfl);refine rc (.bool true) (λW hW=>HCALL.out _) ?_;(iterate 3 refine rv ?_);refine r_nil ?_;intro w8 hw8;have e1a:=bc hw8 hz4 e1;have hz8:=Nat.lt_of_lt_of_le hz4 hw8.size;have c2a:=bc hw8 hzw c2;have H8w:=Lib.hid (HgB.out.trans hw8);clear e0 e1 c2 hz4 hw8;go_wp2;go_roundw;case rel=>exact ⟨j+1+1,by omega,by go_num,(λi hi=>by rcases Nat.lt_succ_iff_lt_or_eq.1 hi with h|h;exact Hall.out i h;rw[h];exact HST.out),H8w.out⟩
     case measure=>simp[intOf];omega
  ·have hkk:k=l.length:=by omega
   subst hkk;have hx:=H8.out.1;obtain ⟨m,hm⟩:∃m,l.length=m+1:=⟨l.length-1,by omega⟩
   have hml:m<l.length:=by omega
   obtain ⟨b,rfl,hb,hc⟩:=(HR.out.gr hgr) hx;obtain ⟨d0,d1⟩:=hc m hml;have hlast:lastS l=l[m]:=by rw[lastS_at hx];congr 1;omega
   have hone:∀j (h:j<l.length),oneOk l[j]=true:=λj h=>by
    have:=Hall.out j h;rw[stepOk_at h,Bool.and_eq_true] at this;exact this.1
   have hle2:∀a∈l,a.2<=16777216:=λa ha=>by
    obtain ⟨j,h,rfl⟩:=List.mem_iff_getElem.1 ha;exact (oneOk_iff.1 (hone j h)).2.2.2
   have hol:=oneOk_iff.1 (hone m hml);have hrest:=λh=>mayS_rest hx H8.out.2 Hall.out h;rw[hlast] at hrest;obtain ⟨x1,hx1⟩:∃x,x=l[m].1:=⟨_,rfl⟩
   obtain ⟨x2,hx2⟩:∃x,x=l[m].2:=⟨_,rfl⟩
   rw[<-hx1] at d0 hol hrest;rw[<-hx2] at d1 hol hrest;have hw:=prod_small (x1:Int) x2 (by omega) (by omega) (by omega) (by omega);have Hrest:=Lib.hid hrest;have Hrr:=Lib.hid (HR.out.gr hgr);clear hx1 hx2 hlast hone hol hrest hc hx;rw[hm] at c2 ⊢;have hmi:(m:Int)<=400:=by omega
   have zm:IntKind.i64.wrap (m:Int)=(m:Int):=IntWalk.i64_in (m:Int) (by omega);clear hlt h1 h2 hml;go_upto_region 10 with (fail)
   obtain ⟨wC,hwC⟩:∃wC,wC=wr.alloc (.cells #[.int .i64 x1, .int .i64 x2] 34):=⟨_,rfl⟩
   have gC:Gr wr wC:=by rw[hwC];exact Gr.alloc (Gr.refl wr) _
   have hz5:wr.heap.size<wC.heap.size:=by rw[hwC];simp
   have e0:wC.cell? ⟨wr.heap.size,0,none⟩=some (.int .i64 x1):=by rw[hwC];go_simp
   have e1:wC.cell? ⟨wr.heap.size,1,none⟩=some (.int .i64 x2):=by rw[hwC];go_simp
   rw[<-hwC];have c0':=bc (hgr.trans gC) hz c0;have c1':=bc (hgr.trans gC) hz c1;have c2':=bc gC hzw c2;have HRC:=Lib.hid (Hrr.out.gr gC);have HGC:=Lib.hid (hgr.trans gC);generalize wr.heap.size=B5 at hz5 e0 e1 ⊢;clear hwC gC c0 c1 c2 d0 d1 hb;have hcs:=λW hW=>whead_size (some ⟨b,0,none⟩) c l H8.out.2 hle2 W hW;obtain ⟨S,hS⟩:∃S,S=sizeS l:=⟨_,rfl⟩
   rw[<-hS,hm] at hcs;have HCS:=Lib.hid hcs;have HSS:=Lib.hid hS;clear hcs hS hle2 hm hgr;by_cases s1:1048576<S
   ·have s2:(1048576:Int)<(S:Int):=by omega
    have HM:Hid (mayS l=false):=Lib.hid (mayS_size (by rw[<-HSS.out];exact s1));clear s1;go_wp2_with (go_at_call 61;refine (HCS.out _ HRC.out).mono ?_;rintro e wD ⟨rfl,gD⟩;have e0b:=bc gD hz5 e0;have e1b:=bc gD hz5 e1;clear e0 e1;have GD:=Lib.hid gD;clear gD);go_ret;exact ⟨by rw[HM.out];rfl,(HG.out.trans HGC.out).trans GD.out⟩
   ·have s2:¬(1048576:Int)<(S:Int):=by omega
    have hM:=Hrest.out (by rw[<-HSS.out];omega);clear s1;by_cases u1:x1*x2<=maxTime
    ·have u2:¬(4294967295:Int)<(x1:Int)*(x2:Int):=by rw[<-Int.natCast_mul];unfold maxTime at u1;omega
     have u3:decide ((4294967295:Int)<(x1:Int)*(x2:Int))=false:=decide_eq_false u2;have HM:Hid (mayS l=true):=Lib.hid (by rw[hM,Nat.ble_eq];exact u1);clear u1 hM;go_wp2_with (go_at_call 61;refine (HCS.out _ HRC.out).mono ?_;rintro e wD ⟨rfl,gD⟩;have e0b:=bc gD hz5 e0;have e1b:=bc gD hz5 e1;clear e0 e1;have GD:=Lib.hid gD;clear gD);go_ret;exact ⟨by rw[HM.out];rfl,(HG.out.trans HGC.out).trans GD.out⟩
    ·have u2:(4294967295:Int)<(x1:Int)*(x2:Int):=by rw[<-Int.natCast_mul];unfold maxTime at u1;omega
     have u3:decide ((4294967295:Int)<(x1:Int)*(x2:Int))=true:=decide_eq_true u2;have HM:Hid (mayS l=false):=Lib.hid (by rw[hM,Bool.eq_false_iff,ne_eq,Nat.ble_eq];exact u1);clear u1 hM;go_wp2_with (go_at_call 61;refine (HCS.out _ HRC.out).mono ?_;rintro e wD ⟨rfl,gD⟩;have e0b:=bc gD hz5 e0;have e1b:=bc gD hz5 e1;clear e0 e1;have GD:=Lib.hid gD;clear gD);go_ret;exact ⟨by rw[HM.out];rfl,(HG.out.trans HGC.out).trans GD.out⟩
def RetG (x:Option (List (Nat×Nat))) (w:World) (e:Ending) (w':World):Prop:=
 ∃A c,e= .returned (.tuple #[.slice A (x.getD []).length c, .int .i64 (if x.isSome then 0 else 15)])/\Ra w' A (x.getD [])/\Gr w w'
theorem RetG.none' {x:Option (List (Nat×Nat))} {w w':World} (h:x=none) (g:Gr w w'):RetG x w (.returned (.tuple #[.slice none 0 0, .int .i64 15])) w':=by subst h;exact ⟨none,0,rfl,Ra.nil _ _,g⟩
theorem RetG.some' {x:Option (List (Nat×Nat))} {l:List (Nat×Nat)} {A:Option Addr} {c:Nat} {w w':World} (h:x=some l) (hr:Ra w' A l) (g:Gr w w'):RetG x w (.returned (.tuple #[.slice A l.length c, .int .i64 0])) w':=by subst h;exact ⟨A,c,rfl,hr,g⟩
def RetGF (x:Option (List (Nat×Nat))) (w:World) (e:Ending) (w':World):Prop:=
 ∃A c,e= .returned (.tuple #[.slice A (x.getD []).length c, .int .i64 (if x.isSome then 0 else 15)])/\Ra w' A (x.getD [])/\Gr w w'/\∀ad,A=some ad->w.heap.size<=ad.block
theorem RetGF.none' {x:Option (List (Nat×Nat))} {w w':World} (h:x=none) (g:Gr w w'):RetGF x w (.returned (.tuple #[.slice none 0 0, .int .i64 15])) w':=by subst h;exact ⟨none,0,rfl,Ra.nil _ _,g,λ_ h=>by cases h⟩
theorem RetGF.some' {x:Option (List (Nat×Nat))} {l:List (Nat×Nat)} {A:Option Addr} {c:Nat} {w w':World} (h:x=some l) (hr:Ra w' A l) (g:Gr w w') (hf:∀ad,A=some ad->w.heap.size<=ad.block):RetGF x w (.returned (.tuple #[.slice A l.length c, .int .i64 0])) w':=by subst h;exact ⟨A,c,rfl,hr,g,hf⟩
theorem archsS_none:∀(m:List (List UInt8)) (k:Nat) (h:k<m.length),archS m[k]=none->archsS m=none
 | [],k,h,_=>absurd h (Nat.not_lt_zero _)
 | p::m,0,_,e=>by
  have e':archS p=none:=e;unfold archsS;rw[e']
 | p::m,k+1,h,e=>by
  have:=archsS_none m k (by simpa using h) e;unfold archsS;rw[this];cases archS p<;>rfl
theorem archsS_some:∀(m:List (List UInt8)) (l:List (Nat×Nat)),l.length=m.length->(∀k (h:k<m.length) (h':k<l.length),archS m[k]=some l[k])->archsS m=some l
 | [],[],_,_=>rfl
 | [],_::_,h,_=>by simp at h
 | _::_,[],h,_=>by simp at h
 | p::m,a::l,h,e=>by
  have e0:archS p=some a:=e 0 (by simp) (by simp);have:=archsS_some m l (by simpa using h) (λk h1 h2=>e (k+1) (by simpa using h1) (by simpa using h2));unfold archsS;rw[e0,this];rfl
theorem archS_le {l:List UInt8} {a:Nat×Nat} (h:archS l=some a):a.1<=maxN/\a.2<=maxN:=by
 rw[arch_of] at h;cases hc:cutS 58 l with
 | none=>rw[hc] at h;cases h
 | some p=>
  rw[hc] at h;simp only at h;cases h1:unsS p.1 with
  | none=>rw[h1] at h;cases h
  | some x=>
   rw[h1] at h;cases h2:unsS p.2 with
   | none=>rw[h2] at h;cases h
   | some y=>
    rw[h2] at h;obtain ⟨st,b⟩:=x;obtain ⟨n,long⟩:=y;simp only at h;have k1:=unsS_le h1;have k2:=unsS_le h2;cases h0:(st==0)
    ·rw[h0] at h;simp only[cond_false,Option.some.injEq] at h;subst h;refine ⟨k1,?_⟩;cases long
     ·exact k2
     ·exact Nat.le_trans (Nat.div_le_self n st) k2
    ·rw[h0] at h;cases h
structure ArJ (m:List (List UInt8)) (k:Nat) (l:List (Nat×Nat)):Prop where
 len:l.length=k
 at':∀j (h:j<m.length) (h':j<l.length),archS m[j]=some l[j]
theorem ArJ.step {m:List (List UInt8)} {k:Nat} {l:List (Nat×Nat)} (h:ArJ m k l) (hk:k<m.length) {a:Nat×Nat} (ha:archS m[k]=some a):ArJ m (k+1) (l++[a]):=by
 refine ⟨by simp[h.len],λj hj hj'=>?_⟩;rcases Nat.lt_or_ge j l.length with h1|h1
 ·rw[List.getElem_append_left h1];exact h.at' j hj h1
 ·have:j=k:=by have:=h.len;simp at hj';omega
  subst this;rw[List.getElem_append_right h1,ha];simp
theorem ArJ.le {m:List (List UInt8)} {k:Nat} {l:List (Nat×Nat)} (h:ArJ m k l) (hk:k<=m.length):∀a∈l,a.1<=maxN/\a.2<=maxN:=λa ha=>by
 obtain ⟨j,hj,rfl⟩:=List.mem_iff_getElem.1 ha;exact archS_le (h.at' j (by have:=h.len;omega) hj)
theorem ArJ.done {m:List (List UInt8)} {l:List (Nat×Nat)} (h:ArJ m m.length l):archsS m=some l:=archsS_some m l h.len h.at'
theorem rules_RetentionsF (s:ByteArray) (hs:(s.size:Int)<=300) (w:World) (hm:Ml w):Calls Tryz.prog 26 #[.string s] w (RetGF (retS s.data.toList) w):=by
 obtain ⟨i0,hi,hz0,hz1,hz2⟩:=info_parts info_arch;obtain ⟨m,hmm⟩:∃m,m=partS 44 s.data.toList:=⟨_,rfl⟩
 have hml:m.length<=301:=by
  have:=partS_len 44 s.data.toList;rw[<-hmm] at this;have e:s.data.toList.length=s.size:=by simp
  omega
 have hmp:∀p∈m,p.length<=300:=λp hp=>by
  have:=(partS_mem 44 s.data.toList p (hmm▸hp)).1;have e:s.data.toList.length=s.size:=by simp
  omega
 have hret:retS s.data.toList=match archsS m with|none=>none|some l=>bif mayS l then some l else none:=by rw[hmm];rfl
 have HS:=Lib.hid (λw hm=>split_any s 44 (by omega) w hm);rw[<-hmm] at HS;have Hret:=Lib.hid hret;have Hmp:=Lib.hid hmp;have HM:=Lib.hid hm;clear hmm hret hmp hm;have hmli:(m.length:Int)<=301:=by omega
 go_enter Tryz.func26,Tryz.ntmps26;go_upto_region 3 with (go_at_call 33;refine (HS.out _ HM.out).mono ?_;rintro e w1 ⟨b,cp,rfl,hb0,hb,hS,g1⟩)
 have HSt:=Lib.hid hS;have G1:=Lib.hid g1;have hzb:w.heap.size<=w1.heap.size:=g1.size;clear hS g1 HS;go_wp2
 go_loopw [4,12] (λv i wr=>∃(k:Nat) (l:List (Nat×Nat)),k<=m.length/\i= .int .i64 k/\Gr w1 wr/\wr.ownsRow w1.heap.size 34 2 v k (acells l)/\ArJ m k l) (λ_ i _=>m.length-(intOf i).toNat)
 case atStart=>exact ⟨0,[],Nat.zero_le _,rfl,Gr.refl _,World.ownsRow_nil _ _ _ _,rfl,λj _ h=>absurd h (Nat.not_lt_zero _)⟩
 case round=>
  obtain ⟨k,l,hk,rfl,hgr,hown,J⟩:=hrel;by_cases hlt:k<m.length
  ·have hki:(k:Int)<(m.length:Int):=by omega
   have cs:=bc hgr hb (HSt.out k hlt);obtain ⟨X,hX⟩:∃X:ByteArray,X=⟨m[k].toArray⟩:=⟨_,rfl⟩
   have hXs:(X.size:Int)<=4096:=by
    have:=Hmp.out m[k] (List.getElem_mem hlt);have e:X.size=m[k].length:=by rw[hX];show m[k].toArray.size=_;simp
    omega
   have hXl:X.data.toList=m[k]:=by rw[hX]
   have HA:=rules_archive X hXs wr ((HM.out.gr G1.out).gr hgr);rw[hXl] at HA;rw[<-hX] at cs;have HJ:=Lib.hid J;have Hgr:=Lib.hid hgr;have hz1':=hgr.size;clear hX hXl hXs J;cases ha:archS m[k] with
   | none=>
    rw[ha] at HA;have HN:Hid (retS s.data.toList=none):=Lib.hid (by rw[Hret.out,archsS_none m k hlt ha]);have HAA:=Lib.hid HA;clear HA ha hgr hown;go_wp2_with (go_at_call 38;refine HAA.out.mono ?_;rintro e w2 ⟨rfl,g2⟩;have G2:=Lib.hid g2;clear g2);go_ret2;exact RetGF.none' HN.out ((((G1.out.trans Hgr.out).trans G2.out).alloc _))
   | some a=>
    rw[ha] at HA;have HJ2:=Lib.hid (HJ.out.step hlt ha);obtain ⟨x1,x2⟩:=a;have HAA:=Lib.hid HA;have HO:=Lib.hid hown;clear HA ha hown;go_upto_region 8 with (go_at_call 38;refine HAA.out.mono ?_;rintro e w2 ⟨rfl,g2⟩;have G2:=Lib.hid g2;clear g2)
    have hv0:=own_grU (own_grU HO.out G2.out) (Gr.alloc (Gr.alloc (Gr.refl w2) (.cells #[.int .i64 x1, .int .i64 x2] 34)) (.cells #[.int .i64 x1, .int .i64 x2] 34));have hvl:=HO.out.lt;have hrx:Rd ((w2.alloc (.cells #[.int .i64 x1, .int .i64 x2] 34)).alloc (.cells #[.int .i64 x1, .int .i64 x2] 34)) 2 (some ⟨w2.heap.size+1,0,none⟩) 1 (acells [(x1,x2)]):=Rd.newU (W:=w2.alloc (.cells #[.int .i64 x1, .int .i64 x2] 34)) (by simp) 34 (acells [(x1,x2)]) rfl;have hsz2:=G2.out.size;have hsz1:=Hgr.out.size;go_wp2_with (at_builtin;refine wpList_append_rd rfl (.tmp 23) (.tmp 25) 27 rfl w1.heap.size 34 i0 _ 2 16 Tryz.underlying27 hi hz0 hz1 hz2 rfl (by decide) _ _ _ rfl hv0 (some ⟨w2.heap.size+1,0,none⟩) 1 _ (acells [(x1,x2)]) rfl hrx (acells_one _) (by unfold maxLen;omega) (by omega) (by simp;omega) ?_;intro v' w3 hown2 hgr2 hat2);have hg2:Gr w1 w3:=Gr.grown (Gr.alloc (Gr.alloc (Hgr.out.trans G2.out) _) _) hgr2 (λk hk=>(hvl k hk).1);have HO2:Hid (w3.ownsRow w1.heap.size 34 2 v' (k+1) (acells (l++[(x1,x2)]))):=Lib.hid (by rw[acells_append];exact hown2);clear hv0 hvl hgr2 hat2 hrx hown2;go_wp2;go_roundw;case rel=>exact ⟨k+1,l++[(x1,x2)],by omega,by go_num,hg2,HO2.out,HJ2.out⟩
    case measure=>simp[intOf];omega
  ·have hkk:k=m.length:=by omega
   subst hkk;obtain ⟨A,c,hv⟩:=own_form hown;subst hv;have hr:=Ra.own hown;have HFr:Hid (∀ad,A=some ad->w.heap.size<=ad.block):=Lib.hid λad e=>Nat.le_trans hzb (hown.lt ad.block (by rw[e];rfl)).1;have hjl:=J.len;have hC:=whead_check A c l (J.le (Nat.le_refl _)) (by omega) wr hr;rw[hjl] at hC;have Hr:=Lib.hid hr;have Hgr:=Lib.hid hgr;have HD:=Lib.hid (And.intro J.done hjl);cases hM:mayS l with
   | false=>
    rw[hM] at hC;have HC:=Lib.hid hC;have HN:Hid (retS s.data.toList=none):=Lib.hid (by rw[Hret.out,HD.out.1];simp only[hM];rfl);clear hC hr hgr hown J hjl hM;go_wp2_with (go_at_call 39;refine HC.out.mono ?_;rintro e w2 ⟨rfl,g2⟩;have G2:=Lib.hid g2;clear g2);go_ret2;exact RetGF.none' HN.out ((G1.out.trans Hgr.out).trans G2.out)
   | true=>
    rw[hM] at hC;have HC:=Lib.hid hC;have HN:Hid (retS s.data.toList=some l):=Lib.hid (by rw[Hret.out,HD.out.1];simp only[hM];rfl);clear hC hr hgr hown J hjl hM;go_wp2_with (go_at_call 39;refine HC.out.mono ?_;rintro e w2 ⟨rfl,g2⟩;have G2:=Lib.hid g2;clear g2);go_ret2;rw[<-HD.out.2];exact RetGF.some' HN.out (Hr.out.gr G2.out) ((G1.out.trans Hgr.out).trans G2.out) HFr.out
theorem rules_Retentions (s:ByteArray) (hs:(s.size:Int)<=300) (w:World) (hm:Ml w):Calls Tryz.prog 26 #[.string s] w (RetG (retS s.data.toList) w):=by
 refine (rules_RetentionsF s hs w hm).mono ?_;rintro e w1 ⟨A,c,rfl,hr,g, -⟩;exact ⟨A,c,rfl,hr,g⟩
theorem ref_may (A:Option Addr) (c:Nat) (l:List (Nat×Nat)) (hn:∀a∈l,a.1<=maxN/\a.2<=maxN) (hll:l.length<=400) (w:World) (hr:Ra w A l):Calls Tryz.prog 66 #[.agg #[.int .i64 1, .int .i64 0, .slice A l.length c]] w λe w'=>e= .returned (.bool (mayS l))/\Gr w w':=by
 obtain ⟨V,hV⟩:∃V,V=w.alloc (.cells #[.int .i64 1, .int .i64 0, .slice A l.length c] 29):=⟨_,rfl⟩
 have gV:Gr w V:=by rw[hV];exact Gr.alloc (Gr.refl w) _
 have hz:w.heap.size<V.heap.size:=by rw[hV];simp
 have c0:V.cell? ⟨w.heap.size,0,none⟩=some (.int .i64 1):=by rw[hV];go_simp
 have c1:V.cell? ⟨w.heap.size,1,none⟩=some (.int .i64 0):=by rw[hV];go_simp
 have c2:V.cell? ⟨w.heap.size,2,none⟩=some (.slice A l.length c):=by rw[hV];go_simp
 have HV:=Lib.hid hV;have HG:=Lib.hid gV;have HR:=Lib.hid (hr.gr gV);have HN:=Lib.hid hn;clear hV gV hr hn;rcases Nat.eq_zero_or_pos l.length with h0|h0
 ·have hM:=mayS_len (.inl h0);have HM:=Lib.hid hM;clear hM;have h1:(l.length:Int)<1:=by omega
  clear h0;go_enter Tryz.func66,Tryz.ntmps66;go_upto_region 1 with (fail)
  rw[<-HV.out];clear HV;go_wp2;go_ret;exact ⟨by rw[HM.out];rfl,HG.out⟩
 rcases Nat.lt_or_ge 8 l.length with h8|h8
 ·have hM:=mayS_len (.inr h8);have HM:=Lib.hid hM;clear hM;have h1:¬(l.length:Int)<1:=by omega
  have h2:(8:Int)<(l.length:Int):=by omega
  clear h0 h8;go_enter Tryz.func66,Tryz.ntmps66;go_upto_region 1 with (fail)
  rw[<-HV.out];clear HV;go_wp2;go_ret;exact ⟨by rw[HM.out];rfl,HG.out⟩
 have h1:¬(l.length:Int)<1:=by omega
 have h2:¬(8:Int)<(l.length:Int):=by omega
 have H8:=Lib.hid (And.intro h0 h8);clear h0 h8;go_enter Tryz.func66,Tryz.ntmps66;go_upto_region 1 with (fail)
 rw[<-HV.out];clear HV;go_upto_region 3 with (fail)
 go_wp2
 go_loopw [4,3] (λi n wr=>∃k:Nat,k<=l.length/\i= .int .i64 k/\n= .int .i64 (sizeS (l.take k):Nat)/\sizeS (l.take k)<=1048576/\(∀j,j<k->stepOk l j=true)/\Gr V wr) (λi _ _=>l.length-(intOf i).toNat)
 case atStart=>exact ⟨0,Nat.zero_le _,rfl,rfl,by simp[sizeS],λj hj=>absurd hj (Nat.not_lt_zero _),Gr.refl _⟩
 case round=>
  obtain ⟨k,hk,rfl,rfl,hsz,hall,hgr⟩:=hrel;have Hall:=Lib.hid hall;have Hgr:=Lib.hid hgr;have hzw:w.heap.size<wr.heap.size:=Nat.lt_of_lt_of_le hz hgr.size;have c2':=bc hgr hz c2;clear hall c2;have c2:=c2';clear c2';by_cases hlt:k<l.length
  ·have hlt':(k:Int)<(l.length:Int):=by omega
   obtain ⟨b,rfl,hb,hc⟩:=(HR.out.gr hgr) (by omega)
   obtain ⟨d0,d1⟩:=hc k hlt;have Hc:=Lib.hid hc;have hn:=HN.out l[k] (List.getElem_mem hlt);have hst:=stepOk_at hlt;have hgr0:=Hgr;clear hc hgr;obtain ⟨x1,hx1⟩:∃x,x=l[k].1:=⟨_,rfl⟩
   obtain ⟨x2,hx2⟩:∃x,x=l[k].2:=⟨_,rfl⟩
   have hx:l[k]=(x1,x2):=by rw[hx1,hx2]
   rw[<-hx1] at d0 hn;rw[<-hx2] at d1 hn;rw[hx] at hst;have Hst:=Lib.hid (And.intro hx hst);have hn1:(x1:Int)<=4611686018427387904:=by have:=hn.1;unfold maxN at this;omega
   have hn2:(x2:Int)<=4611686018427387904:=by have:=hn.2;unfold maxN at this;omega
   clear hx1 hx2 hx hst hn;go_upto_region 8 with (fail)
   obtain ⟨wB,hwB⟩:∃wB,wB=wr.alloc (.cells #[.int .i64 x1, .int .i64 x2] 34):=⟨_,rfl⟩
   have gB:Gr wr wB:=by rw[hwB];exact Gr.alloc (Gr.refl wr) _
   have hz4:wr.heap.size<wB.heap.size:=by rw[hwB];simp
   have e0:wB.cell? ⟨wr.heap.size,0,none⟩=some (.int .i64 x1):=by rw[hwB];go_simp
   have e1:wB.cell? ⟨wr.heap.size,1,none⟩=some (.int .i64 x2):=by rw[hwB];go_simp
   rw[<-hwB];have hbw:b<wB.heap.size:=Nat.lt_of_lt_of_le hb gB.size;have c2':=bc gB hzw c2;have hzw':=Nat.lt_of_lt_of_le hzw gB.size;have Hc':Hid (∀j (h:j<l.length),wB.cell? ⟨b,j*2,none⟩=some (.int .i64 (l[j].1:Nat))/\wB.cell? ⟨b,j*2+1,none⟩=some (.int .i64 (l[j].2:Nat))):=Lib.hid λj h=>⟨(bc gB hb (Hc.out j h).1),(bc gB hb (Hc.out j h).2)⟩
   have HgB:=Lib.hid (hgr0.out.trans gB);generalize wr.heap.size=B4 at hz4 e0 e1 ⊢;clear hwB c0 c1 c2 hzw d0 d1 hb Hc gB;have c2:=c2';have hzw:=hzw';clear c2' hzw';by_cases m1:x1<1
   ·have HM:Hid (mayS l=false):=Lib.hid (mayS_step hlt (by rw[Hst.out.2,one_no (.inl m1)];rfl));have t1:(x1:Int)<1:=by omega
    have t2:decide ((x1:Int)<1)=true:=decide_eq_true t1;clear Hst hlt m1;refine region_R (by kernel_rfl) (by kernel_rfl) ?_;refine rv ?_;refine rv ?_ (h:=λW hW=>by have g:=bc hW hz4 e0;go_light;go_simp<;>rfl);(iterate 2 refine rv ?_);(iterate 3 refine rs ?_);(iterate 2 refine rv ?_);(iterate 3 refine rs ?_);(iterate 2 refine rv ?_);(iterate 3 refine rs ?_);(iterate 2 refine rv ?_);(iterate 13 refine rs ?_);refine rv ?_;refine r_nil ?_;intro w8 hw8;have HW9:=Lib.hid hw8;clear hw8;go_wp2;go_ret;exact ⟨by rw[HM.out];rfl,(HG.out.trans HgB.out).trans HW9.out⟩
   by_cases m2:16777216<x1
   ·have HM:Hid (mayS l=false):=Lib.hid (mayS_step hlt (by rw[Hst.out.2,one_no (.inr (.inl m2))];rfl));have t1:¬(x1:Int)<1:=by omega
    have t2:(16777216:Int)<(x1:Int):=by omega
    have t3:decide ((x1:Int)<1)=false:=decide_eq_false t1;have t4:decide ((16777216:Int)<(x1:Int))=true:=decide_eq_true t2;clear Hst hlt m1 m2;refine region_R (by kernel_rfl) (by kernel_rfl) ?_;refine rv ?_;refine rv ?_ (h:=λW hW=>by have g:=bc hW hz4 e0;go_light;go_simp<;>rfl);(iterate 3 refine rv ?_);refine rv ?_ (h:=λW hW=>by have g:=bc hW hz4 e0;go_light;go_simp<;>rfl);(iterate 3 refine rv ?_);(iterate 3 refine rs ?_);(iterate 2 refine rv ?_);(iterate 3 refine rs ?_);(iterate 2 refine rv ?_);(iterate 13 refine rs ?_);refine rv ?_;refine r_nil ?_;intro w8 hw8;have HW9:=Lib.hid hw8;clear hw8;go_wp2;go_ret;exact ⟨by rw[HM.out];rfl,(HG.out.trans HgB.out).trans HW9.out⟩
   by_cases m3:x2<1
   ·have HM:Hid (mayS l=false):=Lib.hid (mayS_step hlt (by rw[Hst.out.2,one_no (.inr (.inr (.inl m3)))];rfl));have t1:¬(x1:Int)<1:=by omega
    have t2:¬(16777216:Int)<(x1:Int):=by omega
    have t5:(x2:Int)<1:=by omega
    have t3:decide ((x1:Int)<1)=false:=decide_eq_false t1;have t4:decide ((16777216:Int)<(x1:Int))=false:=decide_eq_false t2;have t6:decide ((x2:Int)<1)=true:=decide_eq_true t5;clear Hst hlt m1 m2 m3;refine region_R (by kernel_rfl) (by kernel_rfl) ?_;refine rv ?_;refine rv ?_ (h:=λW hW=>by have g:=bc hW hz4 e0;go_light;go_simp<;>rfl);(iterate 3 refine rv ?_);refine rv ?_ (h:=λW hW=>by have g:=bc hW hz4 e0;go_light;go_simp<;>rfl);(iterate 4 refine rv ?_);refine rv ?_ (h:=λW hW=>by have g:=bc hW hz4 e1;go_light;go_simp<;>rfl);(iterate 3 refine rv ?_);(iterate 3 refine rs ?_);(iterate 2 refine rv ?_);(iterate 13 refine rs ?_);refine rv ?_;refine r_nil ?_;intro w8 hw8;have HW9:=Lib.hid hw8;clear hw8;go_wp2;go_ret;exact ⟨by rw[HM.out];rfl,(HG.out.trans HgB.out).trans HW9.out⟩
   have t1:¬(x1:Int)<1:=by omega
   have t2:¬(16777216:Int)<(x1:Int):=by omega
   have t5:¬(x2:Int)<1:=by omega
   have t3:decide ((x1:Int)<1)=false:=decide_eq_false t1;have t4:decide ((16777216:Int)<(x1:Int))=false:=decide_eq_false t2;have t6:decide ((x2:Int)<1)=false:=decide_eq_false t5;by_cases m4:16777216<x2
   ·have HM:Hid (mayS l=false):=Lib.hid (mayS_step hlt (by rw[Hst.out.2,one_no (.inr (.inr (.inr m4)))];rfl));have t7:(16777216:Int)<(x2:Int):=by omega
    have t8:decide ((16777216:Int)<(x2:Int))=true:=decide_eq_true t7;clear Hst hlt m1 m2 m3 m4;refine region_R (by kernel_rfl) (by kernel_rfl) ?_;refine rv ?_;refine rv ?_ (h:=λW hW=>by have g:=bc hW hz4 e0;go_light;go_simp<;>rfl);(iterate 3 refine rv ?_);refine rv ?_ (h:=λW hW=>by have g:=bc hW hz4 e0;go_light;go_simp<;>rfl);(iterate 4 refine rv ?_);refine rv ?_ (h:=λW hW=>by have g:=bc hW hz4 e1;go_light;go_simp<;>rfl);(iterate 4 refine rv ?_);refine rv ?_ (h:=λW hW=>by have g:=bc hW hz4 e1;go_light;go_simp<;>rfl);(iterate 3 refine rv ?_);(iterate 13 refine rs ?_);refine rv ?_;refine r_nil ?_;intro w8 hw8;have HW9:=Lib.hid hw8;clear hw8;go_wp2;go_ret;exact ⟨by rw[HM.out];rfl,(HG.out.trans HgB.out).trans HW9.out⟩
   have t7:¬(16777216:Int)<(x2:Int):=by omega
   have t8:decide ((16777216:Int)<(x2:Int))=false:=decide_eq_false t7;have hone:oneOk (x1,x2)=true:=oneOk_iff.2 ⟨by simp only;omega,by simp only;omega,by simp only;omega,by simp only;omega⟩;have Hone:=Lib.hid hone;rcases k with _|j
   ·have HT:Hid (stepOk l 0=true):=Lib.hid (by rw[Hst.out.2,hone];rfl);clear hone m1 m2 m3 m4;have z1:decide ((0:Int)<((0:Nat):Int))=false:=by decide
    refine region_R (by kernel_rfl) (by kernel_rfl) ?_;refine rv ?_;refine rv ?_ (h:=λW hW=>by have g:=bc hW hz4 e0;go_light;go_simp<;>rfl);(iterate 3 refine rv ?_);refine rv ?_ (h:=λW hW=>by have g:=bc hW hz4 e0;go_light;go_simp<;>rfl);(iterate 4 refine rv ?_);refine rv ?_ (h:=λW hW=>by have g:=bc hW hz4 e1;go_light;go_simp<;>rfl);(iterate 4 refine rv ?_);refine rv ?_ (h:=λW hW=>by have g:=bc hW hz4 e1;go_light;go_simp<;>rfl);(iterate 6 refine rv ?_);(iterate 9 refine rs ?_);(iterate 2 refine rv ?_);refine r_nil ?_;intro w8 hw8;have e1a:=bc hw8 hz4 e1;have hz8:=Nat.lt_of_lt_of_le hz4 hw8.size;have c2a:=bc hw8 hzw c2;have H8w:=Lib.hid (HgB.out.trans hw8);clear e0 e1 c2 hz4 hw8;have hs:=sizeS_take hlt;simp only[Hst.out.1] at hs;obtain ⟨N,hN⟩:∃N,N=sizeS (l.take (0)):=⟨_,rfl⟩
    rw[<-hN] at hs hsz ⊢;have HS:=Lib.hid hs;have hNi:(N:Int)<=1048576:=by omega
    have hx2i:(x2:Int)<=16777216:=by omega
    clear hN hs hsz;by_cases big:N+(12+12*x2)<=1048576
    ·have big1:¬(1048576:Int)<(N:Int)+12+12*(x2:Int):=by omega
     go_wp2;go_roundw;case rel=>exact ⟨0+1,by omega,by go_num,by rw[HS.out];go_num,by rw[HS.out];exact big,(λi hi=>by rcases Nat.lt_succ_iff_lt_or_eq.1 hi with h|h;exact Hall.out i h;rw[h];exact HT.out),H8w.out⟩
     case measure=>simp[intOf];omega
    ·have big1:(1048576:Int)<(N:Int)+12+12*(x2:Int):=by omega
     have HM:Hid (mayS l=false):=Lib.hid (mayS_size (Nat.lt_of_lt_of_le (by rw[HS.out];omega) (sizeS_mono l (0+1))));clear big;go_wp2;go_ret;exact ⟨by rw[HM.out];rfl,HG.out.trans H8w.out⟩
   ·have hj:j<l.length:=by omega
    obtain ⟨p0,p1⟩:=Hc'.out j hj;have hone1:oneOk l[j]=true:=by
     have:=Hall.out j (Nat.lt_succ_self _);rw[stepOk_at hj,Bool.and_eq_true] at this;exact this.1
    obtain ⟨y,hy⟩:∃y,y=l[j]:=⟨_,rfl⟩
    have hst:=Hst.out.2;simp only[Nat.add_sub_cancel] at hst;rw[<-hy] at hone1 p0 p1 hst;obtain ⟨F,hF⟩:∃F,F=fitsS y (x1,x2):=⟨_,rfl⟩
    have hst2:stepOk l (j+1)=F:=by rw[hst,hone,hF];simp
    have hcall:=λW=>ref_side y (x1,x2) hone1 hone W;rw[<-hF] at hcall;obtain ⟨y1,y2⟩:=y;simp only at p0 p1 hcall;have HCALL:=Lib.hid hcall;have HST:=Lib.hid hst2;have z1:decide ((0:Int)<(j:Int)+1)=true:=by rw[decide_eq_true_eq];omega
    have z2:(0:Int)<(j:Int)+1:=by omega
    have hji:(j:Int)<=400:=by omega
    have zw:IntKind.i64.wrap (j:Int)=(j:Int):=IntWalk.i64_in (j:Int) (by omega);have hjl:(j:Int)<(l.length:Int):=by omega
    clear hone hone1 hF hst hst2 hcall hy hj m1 m2 m3 m4;cases F with
    | false=>
     have HM:Hid (mayS l=false):=Lib.hid (mayS_step hlt HST.out);clear Hst hlt;refine region_R (by kernel_rfl) (by kernel_rfl) ?_;refine rv ?_;refine rv ?_ (h:=λW hW=>by have g:=bc hW hz4 e0;go_light;go_simp<;>rfl);(iterate 3 refine rv ?_);refine rv ?_ (h:=λW hW=>by have g:=bc hW hz4 e0;go_light;go_simp<;>rfl);(iterate 4 refine rv ?_);refine rv ?_ (h:=λW hW=>by have g:=bc hW hz4 e1;go_light;go_simp<;>rfl);(iterate 4 refine rv ?_);refine rv ?_ (h:=λW hW=>by have g:=bc hW hz4 e1;go_light;go_simp<;>rfl);(iterate 7 refine rv ?_);refine rv ?_ (h:=λW hW=>by have g:=bc hW hzw c2;go_light;go_simp<;>rfl);(iterate 3 refine rv ?_);refine rv ?_ (h:=λW hW=>by have g:=bc hW hbw p0;have g2:=bc hW hbw p1;go_light;go_simp<;>rfl);refine rv ?_ (h:=λW hW=>by have g:=bc hW hz4 e0;have g2:=bc hW hz4 e1;go_light;go_simp<;>rfl);refine rc (.bool false) (λW hW=>HCALL.out _) ?_;(iterate 3 refine rv ?_);refine r_nil ?_;intro w8 hw8;have HW9:=Lib.hid hw8;clear hw8;go_wp2;go_ret;exact ⟨by rw[HM.out];rfl,(HG.out.trans HgB.out).trans HW9.out⟩
    | true=>
     refine region_R (by kernel_rfl) (by kernel_rfl) ?_;refine rv ?_;refine rv ?_ (h:=λW hW=>by have g:=bc hW hz4 e0;go_light;go_simp<;>rfl);(iterate 3 refine rv ?_);refine rv ?_ (h:=λW hW=>by have g:=bc hW hz4 e0;go_light;go_simp<;>rfl);(iterate 4 refine rv ?_);refine rv ?_ (h:=λW hW=>by have g:=bc hW hz4 e1;go_light;go_simp<;>rfl);(iterate 4 refine rv ?_);refine rv ?_ (h:=λW hW=>by have g:=bc hW hz4 e1;go_light;go_simp<;>rfl);(iterate 7 refine rv ?_);refine rv ?_ (h:=λW hW=>by have g:=bc hW hzw c2;go_light;go_simp<;>rfl);(iterate 3 refine rv ?_);refine rv ?_ (h:=λW hW=>by have g:=bc hW hbw p0;have g2:=bc hW hbw p1;go_light;go_simp<;>rfl);refine rv ?_ (h:=λW hW=>by have g:=bc hW hz4 e0;have g2:=bc hW hz4 e1;go_light;go_simp<;>rfl);refine rc (.bool true) (λW hW=>HCALL.out _) ?_;(iterate 3 refine rv ?_);refine r_nil ?_;intro w8 hw8;have e1a:=bc hw8 hz4 e1;have hz8:=Nat.lt_of_lt_of_le hz4 hw8.size;have c2a:=bc hw8 hzw c2;have H8w:=Lib.hid (HgB.out.trans hw8);clear e0 e1 c2 hz4 hw8;have hs:=sizeS_take hlt;simp only[Hst.out.1] at hs;obtain ⟨N,hN⟩:∃N,N=sizeS (l.take (j+1)):=⟨_,rfl⟩
     rw[<-hN] at hs hsz ⊢;have HS:=Lib.hid hs;have hNi:(N:Int)<=1048576:=by omega
     have hx2i:(x2:Int)<=16777216:=by omega
     clear hN hs hsz;by_cases big:N+(12+12*x2)<=1048576
     ·have big1:¬(1048576:Int)<(N:Int)+12+12*(x2:Int):=by omega
      go_wp2;go_roundw;case rel=>exact ⟨j+1+1,by omega,by go_num,by rw[HS.out];go_num,by rw[HS.out];exact big,(λi hi=>by rcases Nat.lt_succ_iff_lt_or_eq.1 hi with h|h;exact Hall.out i h;rw[h];exact HST.out),H8w.out⟩
      case measure=>simp[intOf];omega
     ·have big1:(1048576:Int)<(N:Int)+12+12*(x2:Int):=by omega
      have HM:Hid (mayS l=false):=Lib.hid (mayS_size (Nat.lt_of_lt_of_le (by rw[HS.out];omega) (sizeS_mono l (j+1+1))));clear big;go_wp2;go_ret;exact ⟨by rw[HM.out];rfl,HG.out.trans H8w.out⟩
  ·have hkk:k=l.length:=by omega
   subst hkk;have hx:=H8.out.1;obtain ⟨m,hm⟩:∃m,l.length=m+1:=⟨l.length-1,by omega⟩
   have hml:m<l.length:=by omega
   obtain ⟨b,rfl,hb,hc⟩:=(HR.out.gr hgr) hx;obtain ⟨d0,d1⟩:=hc m hml;have hlast:lastS l=l[m]:=by rw[lastS_at hx];congr 1;omega
   have hone:∀j (h:j<l.length),oneOk l[j]=true:=λj h=>by
    have:=Hall.out j h;rw[stepOk_at h,Bool.and_eq_true] at this;exact this.1
   have hle2:∀a∈l,a.2<=16777216:=λa ha=>by
    obtain ⟨j,h,rfl⟩:=List.mem_iff_getElem.1 ha;exact (oneOk_iff.1 (hone j h)).2.2.2
   have hol:=oneOk_iff.1 (hone m hml);have hrest:=λh=>mayS_rest hx H8.out.2 Hall.out h;rw[hlast] at hrest;obtain ⟨x1,hx1⟩:∃x,x=l[m].1:=⟨_,rfl⟩
   obtain ⟨x2,hx2⟩:∃x,x=l[m].2:=⟨_,rfl⟩
   rw[<-hx1] at d0 hol hrest;rw[<-hx2] at d1 hol hrest;have hw:=prod_small (x1:Int) x2 (by omega) (by omega) (by omega) (by omega);have Hrest:=Lib.hid hrest;have Hrr:=Lib.hid (HR.out.gr hgr);clear hx1 hx2 hlast hone hol hrest hc hx;rw[hm] at c2 ⊢;have hmi:(m:Int)<=400:=by omega
   have zm:IntKind.i64.wrap (m:Int)=(m:Int):=IntWalk.i64_in (m:Int) (by omega);clear hlt h1 h2 hml;go_upto_region 14 with (fail)
   obtain ⟨wC,hwC⟩:∃wC,wC=wr.alloc (.cells #[.int .i64 x1, .int .i64 x2] 34):=⟨_,rfl⟩
   have gC:Gr wr wC:=by rw[hwC];exact Gr.alloc (Gr.refl wr) _
   have hz5:wr.heap.size<wC.heap.size:=by rw[hwC];simp
   have e0:wC.cell? ⟨wr.heap.size,0,none⟩=some (.int .i64 x1):=by rw[hwC];go_simp
   have e1:wC.cell? ⟨wr.heap.size,1,none⟩=some (.int .i64 x2):=by rw[hwC];go_simp
   rw[<-hwC];have c0':=bc (hgr.trans gC) hz c0;have c1':=bc (hgr.trans gC) hz c1;have c2':=bc gC hzw c2;have HRC:=Lib.hid (Hrr.out.gr gC);have HGC:=Lib.hid (hgr.trans gC);generalize wr.heap.size=B5 at hz5 e0 e1 ⊢;clear hwC gC c0 c1 c2 d0 d1 hb;have hM:=Hrest.out (by rw[List.take_length] at hsz;exact hsz);clear hle2 hm hgr hsz;by_cases u1:x1*x2<=maxTime
   ·have u2:(x1:Int)*(x2:Int)<=4294967295:=by rw[<-Int.natCast_mul];unfold maxTime at u1;omega
    have u3:decide ((x1:Int)*(x2:Int)<=4294967295)=true:=decide_eq_true u2;have HM:Hid (mayS l=true):=Lib.hid (by rw[hM,Nat.ble_eq];exact u1);clear u1 hM;go_wp2;go_ret;exact ⟨ret_b (by rw[HM.out]),HG.out.trans HGC.out⟩
   ·have u2:¬(x1:Int)*(x2:Int)<=4294967295:=by rw[<-Int.natCast_mul];unfold maxTime at u1;omega
    have u3:decide ((x1:Int)*(x2:Int)<=4294967295)=false:=decide_eq_false u2;have HM:Hid (mayS l=false):=Lib.hid (by rw[hM,Bool.eq_false_iff,ne_eq,Nat.ble_eq];exact u1);clear u1 hM;go_wp2;go_ret;exact ⟨ret_b (by rw[HM.out]),HG.out.trans HGC.out⟩
end Go.Proofs.YtjapddfnpmlifaaGreatDoor
