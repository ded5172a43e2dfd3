import Derived.Test.YtjapddfnpmlifaaGreatDoorRunRfClsS
import Derived.Test.YtjapddfnpmlifaaGreatDoorRunFxBase
import Derived.Deep.Light
import Derived.Deep.Cut
import Derived.Deep.CutRange
set_option linter.all false
set_option maxRecDepth 1000000
set_option maxHeartbeats 12800000
namespace Go.Proofs.YtjapddfnpmlifaaGreatDoor
open Go.RowKit
theorem two_heads (s:ByteArray) (m k:Nat) (h:m+1<s.size) (hk:k=m+2):((s.extract m k).toList==[63,58])=(headIs 63 (s.data.toList.drop m)&&headIs 58 ((s.data.toList.drop m).drop 1)):=by
 subst hk;have e:(s.extract m (m+2)).toList=[s[m],s[m+1]]:=by
  first|rw[Lib.toList_data]|rw[ByteArray.toList_eq]
  apply List.ext_getElem
  ·simp;omega
  ·intro i h1 h2;simp at h2;match i,h2 with
   | 0,_=>simp;rfl
   | 1,_=>simp;rfl
 have hl0:m<s.data.toList.length:=by simp;omega
 have hl1:m+1<s.data.toList.length:=by simp;omega
 rw[e,List.drop_eq_getElem_cons hl0,List.drop_eq_getElem_cons hl1];show _=((s[m].toNat==63)&&(s[m+1].toNat==58))
 rw[Bool.eq_iff_iff];simp only[beq_iff_eq,List.cons.injEq,and_true,Bool.and_eq_true,<-UInt8.toNat_inj];exact Iff.rfl
theorem opens_two {m:Nat} {s:ByteArray} (h:(headIs 63 (s.data.toList.drop m)&&headIs 58 ((s.data.toList.drop m).drop 1))=true):m+1<s.size:=by
 rcases Nat.lt_or_ge (m+1) s.size with h1|h1
 ·exact h1
 ·rw[List.drop_drop,List.drop_eq_nil_of_le (i:=m+1) (by simp;omega)] at h;simp[headIs] at h
theorem rgroup_any (Wf:Rs->Pc×Rs) {w:World} {R n:Nat} {s:ByteArray} {A:Option Addr} {code:List In} {q:Rs} (h:RfS w R s n q A code) (hs:(s.size:Int)<=4096) {c:UInt8} {r:List UInt8} (hq:q.rest=c::r) (hqb:q.over=false/\q.bad=false) (hcd:Cd code) (hb:code.length+2*q.rest.length<=4000) (hqg:(q.groups:Int)<=5000) (hqd:(q.deep:Int)<=5000)
  (hWd:∀o:Rs,(Wf o).2.bad=false->(Wf o).2.deep=o.deep)
  (HW:∀W A' code' n',Cd code'->code'.length+2*(openS {q with rest:=r,deep:=q.deep+1}).2.rest.length<=4000->RfS W R s n' (openS {q with rest:=r,deep:=q.deep+1}).2 A' code'->Calls Tryz.prog 63 #[.pointer (some ⟨R,0,none⟩)] W (RetR W R s (openS {q with rest:=r,deep:=q.deep+1}).2 A' code' (Wf (openS {q with rest:=r,deep:=q.deep+1}).2).1 (Wf (openS {q with rest:=r,deep:=q.deep+1}).2).2)) :
  Calls Tryz.prog 149 #[.pointer (some ⟨R,0,none⟩)] w (RetR w R s q A code ((groupS Wf {q with rest:=r}).1) ((groupS Wf {q with rest:=r}).2)):=by
 obtain ⟨o,ho⟩:∃o,o=openS {q with rest:=r,deep:=q.deep+1}:=⟨_,rfl⟩
 obtain ⟨T,hT⟩:∃T,T=groupS Wf {q with rest:=r}:=⟨_,rfl⟩
 rw[<-ho] at HW;rw[<-hT];have hT2:T=bif Nat.ble 64 q.deep then failS {q with rest:=r,deep:=q.deep+1,over:=true} else bif (Wf o.2).2.bad || !headIs 41 (Wf o.2).2.rest then failS (Wf o.2).2 else (.group o.1 (Wf o.2).1,{ (Wf o.2).2 with rest:=(Wf o.2).2.rest.drop 1,deep:=(Wf o.2).2.deep-1}):=by rw[hT,ho];rfl
 have HT:=Lib.hid hT2;have HO:=Lib.hid ho;have HWW:=Lib.hid HW;clear hT hT2 HW ho;obtain ⟨h,hd, -⟩:=h;have hl0:n<s.data.toList.length:=by
  rcases Nat.lt_or_ge n s.data.toList.length with h1|h1
  ·exact h1
  ·rw[List.drop_eq_nil_of_le h1,hq] at hd;cases hd
 have hn:n<s.size:=by simpa using hl0
 rw[List.drop_eq_getElem_cons hl0,hq] at hd;have hdr:s.data.toList.drop (n+1)=r:=by injection hd
 have hn3:(n:Int)<(s.size:Int):=by omega
 have hn4:(n:Int)<4096:=by omega
 clear hd hl0;obtain ⟨cc2,hc2⟩:=id h;obtain ⟨c1,f1⟩:=And.intro hc2.c1 hc2.f1;clear hc2;go_enter Tryz.func149,Tryz.ntmps149;go_upto_region 1 with (fail)
 have h3:=h.setAt (n+1);rw[show ((n+1:Nat):Int)=(n:Int)+1 by omega] at h3;have x3:WX R w (blk A) (w.setCell ⟨R,1,none⟩ (.int .i64 ((n:Int)+1))) (blk A):=(WX.refl R w (blk A)).set (p:=⟨R,1,none⟩) (.inl rfl) _;clear c1 f1 h;generalize w.setCell ⟨R,1,none⟩ (.int .i64 ((n:Int)+1))=w3 at h3 x3 ⊢;go_upto_region 2 with (fail)
 have hz:R<w3.heap.size:=h3.lt;obtain ⟨cc1,hc1⟩:=id h3;obtain ⟨c0,c1⟩:=And.intro hc1.c0 hc1.c1;rw[show ((n+1:Nat):Int)=(n:Int)+1 by omega] at c1;clear hc1;have hw1:IntKind.i64.wrap ((n:Int)+1+1)=(n:Int)+1+1:=IntWalk.i64_in _ (by omega);have hw2:IntKind.i64.wrap ((n:Int)+1+2)=(n:Int)+1+2:=IntWalk.i64_in _ (by omega);have Hb:=Lib.hid hb;clear hb;obtain ⟨B,hB⟩:∃B,B=(headIs 63 r&&headIs 58 (r.drop 1)):=⟨_,rfl⟩
 have HB:=Lib.hid hB;clear hB
 go_cut [37] from 10 to 38 (λp wx=>p= .bool B/\Gr w3 wx)
 case first=>
  have HBx:=HB.out;rw[<-hdr] at HBx;by_cases hl:n+1+1<s.size
  ·have hE:=two_heads s (n+1) ((n:Int)+1+2).toNat (by omega) (by omega);rw[<-HBx] at hE;have hL:decide ((n:Int)+1+1<(s.size:Int))=true:=by simp;omega
   have hA1:(0:Int)<=(n:Int)+1:=by omega
   have hA2:(n:Int)+1<=(n:Int)+1+2:=by omega
   have hA3:(n:Int)+1+2<=(s.size:Int):=by omega
   clear HBx;refine region_R (by kernel_rfl) (by kernel_rfl) ?_;(iterate 3 refine rv ?_);refine rv ?_ (h:=λW hW=>by have q1:=bc hW hz c1;go_light;go_simp<;>rfl);(iterate 4 refine rv ?_);refine rv ?_ (h:=λW hW=>by have q0:=bc hW hz c0;go_light;go_simp<;>rfl);(iterate 6 refine rv ?_);refine rv ?_ (h:=λW hW=>by have q0:=bc hW hz c0;go_light;go_simp<;>rfl);(iterate 3 refine rv ?_);refine rv ?_ (h:=λW hW=>by have q1:=bc hW hz c1;go_light;go_simp<;>rfl);(iterate 3 refine rv ?_);refine rv ?_ (h:=λW hW=>by have q1:=bc hW hz c1;go_light;go_simp<;>rfl);(iterate 4 refine rv ?_);refine r_nil ?_;intro w4 hw4;go_wp2_with (fail);go_meet;case rel=>exact ⟨rfl,hw4⟩
  ·have hBf:B=false:=by
    rw[HBx];cases hop:(headIs 63 (s.data.toList.drop (n+1))&&headIs 58 ((s.data.toList.drop (n+1)).drop 1))
    ·rfl
    ·exact absurd (opens_two hop) hl
   have hL:decide ((n:Int)+1+1<(s.size:Int))=false:=by simp;omega
   clear HBx;refine region_R (by kernel_rfl) (by kernel_rfl) ?_;(iterate 3 refine rv ?_);refine rv ?_ (h:=λW hW=>by have q1:=bc hW hz c1;go_light;go_simp<;>rfl);(iterate 4 refine rv ?_);refine rv ?_ (h:=λW hW=>by have q0:=bc hW hz c0;go_light;go_simp<;>rfl);(iterate 3 refine rv ?_);(iterate 15 refine rs ?_);refine rv ?_;refine r_nil ?_;intro w4 hw4;go_wp2_with (fail);go_meet;case rel=>exact ⟨by rw[hBf],hw4⟩
 case rest=>
 obtain ⟨rfl,hw4⟩:=hcut;have h4:=h3.gr hw4;have x4:=x3.trans (WX.gr (blk A) hw4);clear h3 x3 hw4 c0 c1 hz;go_upto_if 37 with (fail)
 go_cut [2] from 38 to 60 (λk wx=>∃n1 g1:Nat,k= .int .i64 o.1/\RfW wx R s n1 q.deep 0 g1 A code/\WX R w (blk A) wx (blk A)/\s.data.toList.drop n1=o.2.rest/\n1<=s.size/\g1=o.2.groups/\o.2.deep=q.deep+1)
 case first=>
  have HOx:=HO.out;unfold openS at HOx;simp only at HOx;rw[<-HB.out] at HOx;cases B
  ·rw[cond_false] at HOx;have Hox:=Lib.hid HOx;clear HOx;obtain ⟨cc4,hc4⟩:=id h4;obtain ⟨c4,f4⟩:=And.intro hc4.c4 hc4.f4;clear hc4;have hw3:IntKind.i64.wrap ((q.groups:Int)+1)=(q.groups:Int)+1:=IntWalk.i64_in _ (by omega);go_wp2_with (fail);go_meet;case rel=>rw[Hox.out];have t:=h4.setGroups (q.groups+1);rw[show ((q.groups+1:Nat):Int)=(q.groups:Int)+1 by omega] at t;exact ⟨n+1,_,rfl,t,x4.set (p:=⟨R,4,none⟩) (.inl rfl) _,hdr,by omega,rfl,rfl⟩
  ·have HBx:=HB.out;rw[<-hdr] at HBx;have hl:=opens_two HBx.symm;clear HBx;rw[cond_true] at HOx;have Hox:=Lib.hid HOx;clear HOx;obtain ⟨cc4,hc4⟩:=id h4;obtain ⟨c1,f1⟩:=And.intro hc4.c1 hc4.f1;rw[show ((n+1:Nat):Int)=(n:Int)+1 by omega] at c1;clear hc4;go_wp2_with (fail);go_meet;case rel=>rw[Hox.out];have t:=h4.setAt (n+1+2);rw[show ((n+1+2:Nat):Int)=(n:Int)+1+2 by omega] at t;exact ⟨n+1+2,_,rfl,t,x4.set (p:=⟨R,1,none⟩) (.inl rfl) _,by rw[<-hdr,List.drop_drop],by omega,rfl,rfl⟩
 case rest=>
 clear h4 x4;obtain ⟨n1,g1,rfl,h4,x4,hd1,hn1,hg1,hdo⟩:=hcut;subst hg1;obtain ⟨cc5,hc5⟩:=id h4;obtain ⟨c2,f2⟩:=And.intro hc5.c2 hc5.f2;clear hc5;have hw5:IntKind.i64.wrap ((q.deep:Int)+1)=(q.deep:Int)+1:=IntWalk.i64_in _ (by omega);go_upto_region 7 with (fail)
 have h5:=h4.setDeep (q.deep+1);rw[show ((q.deep+1:Nat):Int)=(q.deep:Int)+1 by omega] at h5;have x5:=x4.set (p:=⟨R,2,none⟩) (.inl rfl) (.int .i64 ((q.deep:Int)+1));clear h4 x4 c2 f2;generalize wc.setCell ⟨R,2,none⟩ (.int .i64 ((q.deep:Int)+1))=w5 at h5 x5 ⊢;obtain ⟨cc6,hc6⟩:=id h5;have c2:=hc6.c2;rw[show ((q.deep+1:Nat):Int)=(q.deep:Int)+1 by omega] at c2;clear hc6;by_cases hov:64<=q.deep
 ·have hTo:T=failS {q with rest:=r,deep:=q.deep+1,over:=true}:=by rw[HT.out,(by simp;omega:Nat.ble 64 q.deep=true)];rfl
  have HB8:=Lib.hid (bad_new h5 12 rfl);have h6:=h5.setErr 12;have x6:=x5.set (p:=⟨R,3,none⟩) (.inl rfl) (.int .i64 12);have hgt:(64:Int)<(q.deep:Int)+1:=by omega
  have HTo:=Lib.hid hTo;clear hTo;go_wp2_with (go_at_call 64;refine HB8.out.mono ?_;rintro x w9 ⟨rfl,rfl⟩);go_end0;rw[HTo.out];exact ⟨rfl,n1,_,_,A,_,by simp only[errE,failS,cond_true];exact h6,x6,⟨Nat.le_refl _,by simp[failS]⟩,λh=>by simp[failS] at h⟩
 ·have hgt:¬(64:Int)<(q.deep:Int)+1:=by omega
  obtain ⟨t,ht⟩:∃t,t=Wf o.2:=⟨_,rfl⟩
  have hTo:=HT.out;rw[(by rw[Bool.eq_false_iff];intro hh;rw[Nat.ble_eq] at hh;omega:Nat.ble 64 q.deep=false),cond_false,<-ht] at hTo;have HTo:=Lib.hid hTo;rw[<-ht] at HWW;have hWt:t.2.bad=false->t.2.deep=o.2.deep:=by rw[ht];exact hWd o.2
  clear hTo ht HT;have hr:o.2.rest.length+1<=q.rest.length:=by
   obtain ⟨o1, -, -, -⟩:=openS_gd {q with rest:=r,deep:=q.deep+1};rw[<-HO.out] at o1;rw[hq,List.length_cons];exact Nat.succ_le_succ o1
  have hk1:o.1<=q.groups+1:=by
   rw[HO.out];unfold openS;cases (headIs 63 r&&headIs 58 (r.drop 1))<;>simp
  have h5':RfW w5 R s n1 o.2.deep 0 o.2.groups A code:=by rw[hdo];exact h5
  have hbb:=Hb.out;by_cases hk:o.1=0
  ·have hk0:¬(0:Int)<(o.1:Int):=by omega
   have hlen:code.length+2*o.2.rest.length<=4000:=by omega
   go_upto_region 12 with (go_at_call 63;refine (HWW.out _ A code n1 hcd hlen ⟨h5',hd1,hn1⟩).mono ?_;rintro x w7 ⟨rfl,n7,d7,g7,A7,code7,k1,k2,k3,k4⟩;have x7:=x5.trans k2)
   clear k2 h5 x5 c2;obtain ⟨cc7,hc7⟩:=id k1;have c3:=hc7.c3;clear hc7;cases hb7:t.2.bad;case true=>
    have hne:(((errE t.2:Nat):Int)==0)=false:=by simp only[errE,hb7];cases t.2.over<;>rfl
    have hT9:T=failS t.2:=by rw[HTo.out,hb7];rfl
    have he9:errE (failS t.2).2=errE t.2:=by simp only[errE,failS,hb7]
    have Hf:=Lib.hid (And.intro hT9 he9);have k3':Hid ((code:List In).length<=code7.length/\code7.length<=(code:List In).length+2*o.2.rest.length):=Lib.hid (by rw[hb7] at k3;exact ⟨k3.1,by simpa using k3.2⟩);clear hT9 he9 hb7 k3;go_wp2_with (fail);go_end0;rw[Hf.out.1];exact ⟨rfl,n7,_,_,A7,_,by rw[Hf.out.2];exact k1,x7,⟨by have:=k3'.out.1;simp at this ⊢;omega,by have:=k3'.out.2;simp[failS] at this ⊢;omega⟩,λh=>by simp[failS] at h⟩
   case false=>
    obtain ⟨j1,j2,j3,j4,j5,j6⟩:=k4 hb7;have he:errE t.2=0:=by simp only[errE,hb7,j1];rfl
    rw[he] at k1 c3;have HM:=Lib.hid (more_any k1 hs 41);rw[j3] at HM;cases h41:headIs 41 t.2.rest;case false=>
     rw[h41] at HM;have hT9:T=failS t.2:=by rw[HTo.out,hb7,h41];rfl
     have HT9:=Lib.hid hT9;have J:=Lib.hid (And.intro j1 (And.intro j2 hb7));clear hT9 h41 j1 j2 j3 j5 j6 k4 he;go_upto_region 14 with (go_at_call 95;refine HM.out.mono ?_;rintro x w8 ⟨rfl,g8⟩;have k8:=k1.gr g8;have x8:=x7.trans (WX.gr _ g8))
     have HB8:=Lib.hid (bad_new k8 8 rfl);have k9:=k8.setErr 8;have x9:=x8.set (p:=⟨R,3,none⟩) (.inl rfl) (.int .i64 8);clear k1 x7 c3;go_wp2_with (go_at_call 64;refine HB8.out.mono ?_;rintro x w9 ⟨rfl,rfl⟩);go_end0;rw[HT9.out];exact ⟨rfl,n7,_,_,A7,_,by simp only[errE,failS,J.out.1,cond_true,cond_false];exact k9,x9,⟨by have:=k3.1;simp at this ⊢;omega,by have:=k3.2;rw[J.out.2.2] at this;simp[failS] at this ⊢;omega⟩,λh=>by simp[failS] at h⟩
    case true=>
     rw[h41] at HM;obtain ⟨y,t1,ht1, -⟩:=headIs_cons h41;have hn7:n7<s.size:=by
      rcases Nat.lt_or_ge n7 s.size with h1|h1
      ·exact h1
      ·rw[List.drop_eq_nil_of_le (by simp;omega),ht1] at j3;cases j3
     have hT9:T=(.group o.1 t.1,{t.2 with rest:=t.2.rest.drop 1,deep:=t.2.deep-1}):=by rw[HTo.out,(by rw[hb7,h41];rfl:(t.2.bad || !headIs 41 t.2.rest)=false),cond_false]
     have HT9:=Lib.hid hT9;have hd7:d7=q.deep+1:=by rw[j5,<-hdo];exact hWt hb7
     have J:=Lib.hid (And.intro j1 (And.intro j2 (And.intro hb7 (And.intro j3 (And.intro j5 j6)))));clear hT9 h41 j1 j2 j3 j5 j6 k4 he ht1;subst hd7;go_upto_region 15 with (go_at_call 95;refine HM.out.mono ?_;rintro x w8 ⟨rfl,g8⟩;have k8:=k1.gr g8;have x8:=x7.trans (WX.gr _ g8))
     clear k1 x7 c3;obtain ⟨cc8,hc8⟩:=id k8;obtain ⟨c1,f1⟩:=And.intro hc8.c1 hc8.f1;clear hc8;have hn74:(n7:Int)<4096:=by omega
     go_upto_region 16 with (fail)
     have k9:=k8.setAt (n7+1);rw[show ((n7+1:Nat):Int)=(n7:Int)+1 by omega] at k9;have x9:=x8.set (p:=⟨R,1,none⟩) (.inl rfl) (.int .i64 ((n7:Int)+1));clear k8 x8 c1 f1;generalize w8.setCell ⟨R,1,none⟩ (.int .i64 ((n7:Int)+1))=w9 at k9 x9 ⊢;obtain ⟨cc9,hc9⟩:=id k9;obtain ⟨c2,f2⟩:=And.intro hc9.c2 hc9.f2;clear hc9;rw[show ((q.deep+1:Nat):Int)=(q.deep:Int)+1 by omega] at c2;have hw7:IntKind.i64.wrap ((q.deep:Int)+1-1)=(q.deep:Int):=by rw[IntWalk.i64_in _ (by omega)];omega
     go_upto_region 17 with (fail)
     have kA:=k9.setDeep q.deep;have xA:=x9.set (p:=⟨R,2,none⟩) (.inl rfl) (.int .i64 (q.deep:Int));clear k9 x9 c2 f2;generalize w9.setCell ⟨R,2,none⟩ (.int .i64 (q.deep:Int))=wA at kA xA ⊢;go_wp2_with (fail);go_end0;rw[HT9.out];refine ⟨rfl,n7+1,_,_,_,_,by simp only[errE,J.out.1,J.out.2.2.1,cond_false];exact kA,xA,?_,λ_=>⟨J.out.1,?_,?_,by omega,?_,J.out.2.2.2.2.2⟩⟩
     ·refine ⟨by have:=k3.1;simp at this ⊢;omega,?_⟩;have:=k3.2;rw[J.out.2.2.1] at this;simp[J.out.2.2.1] at this ⊢;omega
     ·have:=J.out.2.1;simp[Pc.lay,hk];exact this
     ·show _=t.2.rest.drop 1;rw[<-J.out.2.2.2.1,List.drop_drop]
     ·have:=J.out.2.2.2.2.1;show q.deep=t.2.deep-1;omega
  ·have hk0:(0:Int)<(o.1:Int):=by omega
   have hw6:IntKind.i64.wrap (2*(o.1:Int))=2*(o.1:Int):=IntWalk.i64_in _ (by omega);have hlen:(code++[(⟨4,2*(o.1:Int),0,[]⟩:In)]).length+2*o.2.rest.length<=4000:=by simp;omega
   have HL:=Lib.hid (rlay_any h5' 4 (2*(o.1:Int)) 0 [] (by omega));go_upto_region 11 with (go_at_call 62;refine HL.out.mono ?_;rintro x w6 ⟨rfl,A6,h6,x6'⟩;have x6:=x5.trans x6')
   go_upto_region 12 with (go_at_call 63;refine (HWW.out _ A6 (code++[(⟨4,2*(o.1:Int),0,[]⟩:In)]) n1 (hcd.snoc (by simp only;omega)) hlen ⟨h6,hd1,hn1⟩).mono ?_;rintro x w7 ⟨rfl,n7,d7,g7,A7,code7,k1,k2,k3,k4⟩;have x7:=x6.trans k2)
   clear k2 h5 x5 c2;obtain ⟨cc7,hc7⟩:=id k1;have c3:=hc7.c3;clear hc7;cases hb7:t.2.bad;case true=>
    have hne:(((errE t.2:Nat):Int)==0)=false:=by simp only[errE,hb7];cases t.2.over<;>rfl
    have hT9:T=failS t.2:=by rw[HTo.out,hb7];rfl
    have he9:errE (failS t.2).2=errE t.2:=by simp only[errE,failS,hb7]
    have Hf:=Lib.hid (And.intro hT9 he9);have k3':Hid (((code++[(⟨4,2*(o.1:Int),0,[]⟩:In)]):List In).length<=code7.length/\code7.length<=((code++[(⟨4,2*(o.1:Int),0,[]⟩:In)]):List In).length+2*o.2.rest.length):=Lib.hid (by rw[hb7] at k3;exact ⟨k3.1,by simpa using k3.2⟩);clear hT9 he9 hb7 k3;go_wp2_with (fail);go_end0;rw[Hf.out.1];exact ⟨rfl,n7,_,_,A7,_,by rw[Hf.out.2];exact k1,x7,⟨by have:=k3'.out.1;simp at this ⊢;omega,by have:=k3'.out.2;simp[failS] at this ⊢;omega⟩,λh=>by simp[failS] at h⟩
   case false=>
    obtain ⟨j1,j2,j3,j4,j5,j6⟩:=k4 hb7;have he:errE t.2=0:=by simp only[errE,hb7,j1];rfl
    rw[he] at k1 c3;have HM:=Lib.hid (more_any k1 hs 41);rw[j3] at HM;cases h41:headIs 41 t.2.rest;case false=>
     rw[h41] at HM;have hT9:T=failS t.2:=by rw[HTo.out,hb7,h41];rfl
     have HT9:=Lib.hid hT9;have J:=Lib.hid (And.intro j1 (And.intro j2 hb7));clear hT9 h41 j1 j2 j3 j5 j6 k4 he;go_upto_region 14 with (go_at_call 95;refine HM.out.mono ?_;rintro x w8 ⟨rfl,g8⟩;have k8:=k1.gr g8;have x8:=x7.trans (WX.gr _ g8))
     have HB8:=Lib.hid (bad_new k8 8 rfl);have k9:=k8.setErr 8;have x9:=x8.set (p:=⟨R,3,none⟩) (.inl rfl) (.int .i64 8);clear k1 x7 c3;go_wp2_with (go_at_call 64;refine HB8.out.mono ?_;rintro x w9 ⟨rfl,rfl⟩);go_end0;rw[HT9.out];exact ⟨rfl,n7,_,_,A7,_,by simp only[errE,failS,J.out.1,cond_true,cond_false];exact k9,x9,⟨by have:=k3.1;simp at this ⊢;omega,by have:=k3.2;rw[J.out.2.2] at this;simp[failS] at this ⊢;omega⟩,λh=>by simp[failS] at h⟩
    case true=>
     rw[h41] at HM;obtain ⟨y,t1,ht1, -⟩:=headIs_cons h41;have hn7:n7<s.size:=by
      rcases Nat.lt_or_ge n7 s.size with h1|h1
      ·exact h1
      ·rw[List.drop_eq_nil_of_le (by simp;omega),ht1] at j3;cases j3
     have hT9:T=(.group o.1 t.1,{t.2 with rest:=t.2.rest.drop 1,deep:=t.2.deep-1}):=by rw[HTo.out,(by rw[hb7,h41];rfl:(t.2.bad || !headIs 41 t.2.rest)=false),cond_false]
     have HT9:=Lib.hid hT9;have hd7:d7=q.deep+1:=by rw[j5,<-hdo];exact hWt hb7
     have J:=Lib.hid (And.intro j1 (And.intro j2 (And.intro hb7 (And.intro j3 (And.intro j5 j6)))));clear hT9 h41 j1 j2 j3 j5 j6 k4 he ht1;subst hd7;go_upto_region 15 with (go_at_call 95;refine HM.out.mono ?_;rintro x w8 ⟨rfl,g8⟩;have k8:=k1.gr g8;have x8:=x7.trans (WX.gr _ g8))
     clear k1 x7 c3;obtain ⟨cc8,hc8⟩:=id k8;obtain ⟨c1,f1⟩:=And.intro hc8.c1 hc8.f1;clear hc8;have hn74:(n7:Int)<4096:=by omega
     go_upto_region 16 with (fail)
     have k9:=k8.setAt (n7+1);rw[show ((n7+1:Nat):Int)=(n7:Int)+1 by omega] at k9;have x9:=x8.set (p:=⟨R,1,none⟩) (.inl rfl) (.int .i64 ((n7:Int)+1));clear k8 x8 c1 f1;generalize w8.setCell ⟨R,1,none⟩ (.int .i64 ((n7:Int)+1))=w9 at k9 x9 ⊢;obtain ⟨cc9,hc9⟩:=id k9;obtain ⟨c2,f2⟩:=And.intro hc9.c2 hc9.f2;clear hc9;rw[show ((q.deep+1:Nat):Int)=(q.deep:Int)+1 by omega] at c2;have hw7:IntKind.i64.wrap ((q.deep:Int)+1-1)=(q.deep:Int):=by rw[IntWalk.i64_in _ (by omega)];omega
     go_upto_region 17 with (fail)
     have kA:=k9.setDeep q.deep;have xA:=x9.set (p:=⟨R,2,none⟩) (.inl rfl) (.int .i64 (q.deep:Int));clear k9 x9 c2 f2;generalize w9.setCell ⟨R,2,none⟩ (.int .i64 (q.deep:Int))=wA at kA xA ⊢;have hw8:IntKind.i64.wrap (2*(o.1:Int)+1)=2*(o.1:Int)+1:=IntWalk.i64_in _ (by omega);have HL2:=Lib.hid (rlay_any kA 4 (2*(o.1:Int)+1) 0 [] (by have:=k3.2;simp at this hlen;omega));go_wp2_with (go_at_call 62;refine HL2.out.mono ?_;rintro x wB ⟨rfl,A9,kB,xB⟩);go_end0;rw[HT9.out];refine ⟨rfl,n7+1,_,_,_,_,by simp only[errE,J.out.1,J.out.2.2.1,cond_false];exact kB,xA.trans xB,?_,λ_=>⟨J.out.1,?_,?_,by omega,?_,J.out.2.2.2.2.2⟩⟩
     ·refine ⟨by have:=k3.1;simp at this ⊢;omega,?_⟩;have:=k3.2;rw[J.out.2.2.1] at this;simp[J.out.2.2.1] at this ⊢;omega
     ·have:=J.out.2.1;simp only[Pc.lay,beq_eq_false_iff_ne.2 hk,cond_false];rw[this];simp
     ·show _=t.2.rest.drop 1;rw[<-J.out.2.2.2.1,List.drop_drop]
     ·have:=J.out.2.2.2.2.1;show q.deep=t.2.deep-1;omega
end Go.Proofs.YtjapddfnpmlifaaGreatDoor
