import Derived.Test.YtjapddfnpmlifaaGreatDoorRunRfGroup
import Derived.Deep.Cut
import Derived.Deep.CutRange
set_option linter.all false
set_option maxRecDepth 1000000
set_option maxHeartbeats 12800000
namespace Go.Proofs.YtjapddfnpmlifaaGreatDoor
open Go.RowKit
theorem Ri.wx {w w':World} {R:Nat} {g g':Option Nat} {A2:Option Addr} {l:List In} (h:Ri w A2 l) (x:WX R w g w' g') (hn:∀ad,A2=some ad->ad.block≠R/\g≠some ad.block):Ri w' A2 l:=by
 refine ⟨h.1,λh0=>?_⟩;obtain ⟨ad,e,hb,hc⟩:=h.2 h0;obtain ⟨n1,n2⟩:=hn ad e;refine ⟨ad,e,Nat.lt_of_lt_of_le hb x.size,λj v hv=>?_⟩;rw[<-hc j v hv];exact World.cell?_of_block (by rw[add_blk];exact x.block _ hb n1 n2)
theorem rep_star {p:Pc} (hp:p.ok) {code L:List In} (hL:L=p.lay 0) (z:Bool) (v:In) (hv:v=splitI z (code.length+1) (code.length+p.sz+2)):code++[v]++mvL ((code++[v]).length:Int) L++[⟨3,code.length,0,[]⟩]=code++(Pc.rep 42 z p).lay code.length:=by
 have h1:=put_lay p hp (code.length+1);subst hL hv;rw[show ((code++[splitI z (code.length+1) (code.length+p.sz+2)]).length:Int)=((code.length+1:Nat):Int) by simp,h1];simp[Pc.lay]
theorem rep_maybe {p:Pc} (hp:p.ok) {code L:List In} (hL:L=p.lay 0) (z:Bool) (v:In) (hv:v=splitI z (code.length+1) (code.length+p.sz+1)):code++[v]++mvL ((code++[v]).length:Int) L=code++(Pc.rep 63 z p).lay code.length:=by
 have h1:=put_lay p hp (code.length+1);subst hL hv;rw[show ((code++[splitI z (code.length+1) (code.length+p.sz+1)]).length:Int)=((code.length+1:Nat):Int) by simp,h1];simp[Pc.lay]
theorem rep_plus {p:Pc} (hp:p.ok) {code L:List In} (hL:L=p.lay 0) (z:Bool) (v:In) (hv:v=splitI z code.length (code.length+p.sz+1)):code++mvL (code.length:Int) L++[v]=code++(Pc.rep 43 z p).lay code.length:=by
 have h1:=put_lay p hp code.length;subst hL hv;rw[h1];simp[Pc.lay]
theorem rpiece_any (Wf:Rs->Pc×Rs) {w:World} {R n:Nat} {s:ByteArray} {A:Option Addr} {code:List In} {q:Rs} (h:RfS w R s n q A code) (hs:(s.size:Int)<=4096) (hcd:Cd code) (hb:code.length+2*q.rest.length<=4000) (hok:(atomS Wf q).1.ok)
  (HA:∀W,RfS W R s n q A code->Calls Tryz.prog 144 #[.pointer (some ⟨R,0,none⟩)] W (RetR W R s q A code (atomS Wf q).1 (atomS Wf q).2)) :
  Calls Tryz.prog 125 #[.pointer (some ⟨R,0,none⟩)] w (RetR w R s q A code ((pieceS Wf q).1) ((pieceS Wf q).2)):=by
 obtain ⟨t,ht⟩:∃t,t=atomS Wf q:=⟨_,rfl⟩
 obtain ⟨T,hT⟩:∃T,T=pieceS Wf q:=⟨_,rfl⟩
 rw[<-ht] at HA hok;rw[<-hT];have hT2:T=bif t.2.bad then t else match t.2.rest with
  | []=>t
  | c::q=>bif repC c.toNat then (.rep c.toNat (headIs 63 q) t.1,{t.2 with rest:=bif headIs 63 q then q.drop 1 else q}) else t:=by rw[hT,ht];rfl
 have HT:=Lib.hid hT2;have HAA:=Lib.hid HA;have hP:=Lib.hid hok;clear hT hT2 HA ht hok;obtain ⟨cc2,hc2⟩:=id h.1;have c5:=hc2.c5;clear hc2;go_enter Tryz.func125,Tryz.ntmps125;go_upto_region 2 with (go_at_call 144;refine (HAA.out _ h).mono ?_;rintro x w7 ⟨rfl,n7,d7,g7,A7,code7,k1,k2,k3,k4⟩)
 clear c5 h;have hz:R<w7.heap.size:=k1.lt;obtain ⟨cc7,hc7⟩:=id k1;obtain ⟨c0,c1,c3⟩:=And.intro hc7.c0 (And.intro hc7.c1 hc7.c3);clear hc7;cases hb7:t.2.bad;case true=>
  have hne:(((errE t.2:Nat):Int)==0)=false:=by simp only[errE,hb7];cases t.2.over<;>rfl
  have hne2:(((errE t.2:Nat):Int) != 0)=true:=by simp only[errE,hb7];cases t.2.over<;>rfl
  have hT9:T=t:=by rw[HT.out,hb7];rfl
  have HT9:=Lib.hid hT9;clear hT9 hb7;refine region_R (by kernel_rfl) (by kernel_rfl) ?_;(iterate 3 refine rv ?_);refine rv ?_ (h:=λW hW=>by have q3:=bc hW hz c3;go_light;go_simp<;>rfl);(iterate 2 refine rv ?_);(iterate 10 refine rs ?_);refine rv ?_;refine r_nil ?_;intro w8 hw8;go_wp2_with (fail);go_end0;rw[HT9.out];exact ⟨rfl,n7,d7,g7,A7,code7,k1.gr hw8,k2.trans (WX.gr _ hw8),k3,k4⟩
 case false=>
  obtain ⟨j1,j2,j3,j4,j5,j6⟩:=k4 hb7;have he:errE t.2=0:=by simp only[errE,hb7,j1];rfl
  have He:=Lib.hid he;rw[he] at c3;rcases hr2:t.2.rest with _|⟨d,q2⟩
  ·have hn7:n7=s.size:=by
    rw[hr2] at j3;have:=congrArg List.length j3;simp at this;omega
   have hT9:T=t:=by rw[HT.out,hb7,hr2];rfl
   have HT9:=Lib.hid hT9;have Hn:=Lib.hid hn7;have e1:((n7:Int)==(s.size:Int))=true:=by simp;omega
   clear hT9 hn7 he j1 j2 j3 j4 j5 j6 hb7 hr2;refine region_R (by kernel_rfl) (by kernel_rfl) ?_;(iterate 3 refine rv ?_);refine rv ?_ (h:=λW hW=>by have q3:=bc hW hz c3;go_light;go_simp<;>rfl);(iterate 5 refine rv ?_);refine rv ?_ (h:=λW hW=>by have q1:=bc hW hz c1;go_light;go_simp<;>rfl);(iterate 3 refine rv ?_);refine rv ?_ (h:=λW hW=>by have q0:=bc hW hz c0;go_light;go_simp<;>rfl);(iterate 3 refine rv ?_);refine r_nil ?_;intro w8 hw8;go_wp2_with (fail);go_end0;rw[HT9.out];exact ⟨rfl,n7,d7,g7,A7,code7,k1.gr hw8,k2.trans (WX.gr _ hw8),k3,k4⟩
  ·have hl0:n7<s.data.toList.length:=by
    rcases Nat.lt_or_ge n7 s.data.toList.length with h1|h1
    ·exact h1
    ·rw[List.drop_eq_nil_of_le h1,hr2] at j3;cases j3
   have hn7:n7<s.size:=by simpa using hl0
   rw[List.drop_eq_getElem_cons hl0,hr2] at j3;have hdc:s[n7]=d:=by injection j3
   have hd2:s.data.toList.drop (n7+1)=q2:=by injection j3
   have hn3:(n7:Int)<(s.size:Int):=by omega
   have hn4:(n7:Int)<4096:=by omega
   have e1:((n7:Int)==(s.size:Int))=false:=by simp;omega
   rw[he] at k1;have k3b:=k3;rw[hb7] at k3b;have K3:=Lib.hid k3b;clear hl0 j3 j4 he k3b;refine region_R (by kernel_rfl) (by kernel_rfl) ?_;(iterate 3 refine rv ?_);refine rv ?_ (h:=λW hW=>by have q3:=bc hW hz c3;go_light;go_simp<;>rfl);(iterate 5 refine rv ?_);refine rv ?_ (h:=λW hW=>by have q1:=bc hW hz c1;go_light;go_simp<;>rfl);(iterate 3 refine rv ?_);refine rv ?_ (h:=λW hW=>by have q0:=bc hW hz c0;go_light;go_simp<;>rfl);(iterate 3 refine rv ?_);refine r_nil ?_;intro w8 hw8;have k8:=k1.gr hw8;have x8:=k2.trans (WX.gr _ hw8);clear c0 c1 c3 hz;go_upto_region 3 with (fail)
   have hz:R<w8.heap.size:=k8.lt;obtain ⟨cc8,hc8⟩:=id k8;obtain ⟨c0,c1⟩:=And.intro hc8.c0 hc8.c1;clear hc8;refine region_Q (by kernel_rfl) (by kernel_rfl) ?_;(iterate 3 refine qv ?_);refine qv ?_ (h:=λW hW=>by have q0:=bc hW hz c0;go_simp<;>rfl);(iterate 3 refine qv ?_);refine qv ?_ (h:=λW hW=>by have q1:=bc hW hz c1;go_simp<;>rfl);(iterate 2 refine qv ?_);refine wpQuiet_nil ?_;intro w9 hw9;have k8':=k8.gr hw9;have x8':=x8.trans (WX.gr _ hw9);clear c0 c1 hz k8 x8;have k8:=k8';have x8:=x8';clear k8' x8';by_cases hrp:repC d.toNat=true
   ·rw[j2] at k8;have J2:=Lib.hid j2;obtain ⟨L,hL⟩:∃L,L=t.1.lay 0:=⟨_,rfl⟩
    have hLl:L.length=t.1.sz:=by rw[hL,Pc.lay_len]
    have hLb:code.length+L.length+2<=4000:=by
     have h1:=K3.out.2;rw[J2.out,hr2] at h1;simp[Pc.lay_len] at h1;omega
    have HL:=Lib.hid (And.intro hLl hLb);have HLL:=Lib.hid hL;have HB:Hid (code.length+L.length+2*(q2.length+1)<=code.length+2*q.rest.length):=Lib.hid (by
     have h1:=K3.out.2;rw[J2.out,hr2] at h1;simp[Pc.lay_len] at h1;omega)
    have HS:Hid (Sm L):=Lib.hid (by rw[hL];exact Pc.lay_sm t.1 hP.out 0 (by omega));have HCC:Hid (∀W m',RfW W R s m' d7 0 g7 A7 (code++t.1.lay code.length)->Calls Tryz.prog 96 #[.pointer (some ⟨R,0,none⟩), .int .i64 (code.length:Int)] W (RetT W R s m' d7 0 g7 A7 code L)):=Lib.hid λW m' hW=>by
     have hcl:=hcd.lay hP.out (by omega:code.length+t.1.sz<=50000);have:=rcut_any hW code.length hcl.2 (by simp) hcl.1 (by simp[Pc.lay_len];omega);rw[List.take_left,List.drop_left,cut_lay _ hP.out,<-hL] at this;exact this
    clear hL hLl hLb j2;have h3:d.toNat=42\/d.toNat=43\/d.toNat=63:=by simpa [repC] using hrp
    clear hrp;rcases h3 with h42|h43|h63
    ·have hT9:T=(.rep 42 (headIs 63 q2) t.1,{t.2 with rest:=bif headIs 63 q2 then q2.drop 1 else q2}):=by rw[HT.out];simp only[hb7,hr2,h42,cond_false];rfl
     have k42:((d.toNat:Int)==42)=true:=by simp[h42]
     have l42:((d.toNat:Int)==43)=false:=by simp[h42]
     have m42:((d.toNat:Int)==63)=false:=by simp[h42]
     have HT9:=Lib.hid hT9;clear hT9;go_upto_region 5 with (fail)
     obtain ⟨ccB,hcB⟩:=id k8;obtain ⟨c1,f1⟩:=And.intro hcB.c1 hcB.f1;clear hcB;have hwp:IntKind.i64.wrap ((n7:Int)+1)=(n7:Int)+1:=IntWalk.i64_in _ (by omega);go_upto_region 6 with (fail)
     have k9:=k8.setAt (n7+1);rw[show ((n7+1:Nat):Int)=(n7:Int)+1 by omega] at k9;have x9:=x8.set (p:=⟨R,1,none⟩) (.inl rfl) (.int .i64 ((n7:Int)+1));clear k8 x8 c1 f1;generalize w9.setCell ⟨R,1,none⟩ (.int .i64 ((n7:Int)+1))=w10 at k9 x9 ⊢;have HM:=Lib.hid (more_any k9 hs 63);rw[hd2] at HM;cases hz:headIs 63 q2;case false=>
      rw[hz] at HM;have HDR:=Lib.hid (show s.data.toList.drop (n7+1)=q2 from hd2);have J:=Lib.hid (And.intro j1 (And.intro hb7 (And.intro hr2 (And.intro hz (And.intro hn7 (And.intro j5 j6))))));clear hz hd2 hr2 hb7 j1 j5 j6 h42;go_upto_region 7 with (go_at_call 95;refine HM.out.mono ?_;rintro x wA ⟨rfl,gA⟩;have kA:=k9.gr gA;have xA:=x9.trans (WX.gr _ gA))
      clear k9 x9;go_upto_region 9 with (fail)
      have HC:=HCC.out _ _ kA;have hLi:(L.length:Int)<=4000:=by have:=HL.out.2;omega
      have hai:(code.length:Int)<=4000:=by have:=HL.out.2;omega
      have HC2:=Lib.hid HC;clear HC;go_upto_region 19 with (go_at_call 96;refine HC2.out.mono ?_;rintro x wB ⟨AB,cB,AC,rfl,rB,kB,xB,hB⟩;have xB':=xA.trans xB)
      clear kA xA xB;have gV:Gr wB (wB.alloc (.cells #[.int .i64 2, .int .i64 ((code.length:Int)+1), .int .i64 ((code.length:Int)+2+(L.length:Int)), .string ⟨#[]⟩] 143)):=Gr.alloc (Gr.refl wB) _;have kV:=kB.gr gV;have xV:=xB'.trans (WX.gr _ gV);have rV:=rB.gr gV;have v0:(wB.alloc (.cells #[.int .i64 2, .int .i64 ((code.length:Int)+1), .int .i64 ((code.length:Int)+2+(L.length:Int)), .string ⟨#[]⟩] 143)).cell? ⟨wB.heap.size,0,none⟩=some (.int .i64 2):=by go_simp
      have v1:(wB.alloc (.cells #[.int .i64 2, .int .i64 ((code.length:Int)+1), .int .i64 ((code.length:Int)+2+(L.length:Int)), .string ⟨#[]⟩] 143)).cell? ⟨wB.heap.size,1,none⟩=some (.int .i64 ((code.length:Int)+1)):=by go_simp
      have v2:(wB.alloc (.cells #[.int .i64 2, .int .i64 ((code.length:Int)+1), .int .i64 ((code.length:Int)+2+(L.length:Int)), .string ⟨#[]⟩] 143)).cell? ⟨wB.heap.size,2,none⟩=some (.int .i64 ((code.length:Int)+2+(L.length:Int))):=by go_simp
      have v3:(wB.alloc (.cells #[.int .i64 2, .int .i64 ((code.length:Int)+1), .int .i64 ((code.length:Int)+2+(L.length:Int)), .string ⟨#[]⟩] 143)).cell? ⟨wB.heap.size,3,none⟩=some (.string ⟨#[]⟩):=by go_simp
      have hzV:wB.heap.size<(wB.alloc (.cells #[.int .i64 2, .int .i64 ((code.length:Int)+1), .int .i64 ((code.length:Int)+2+(L.length:Int)), .string ⟨#[]⟩] 143)).heap.size:=by simp
      have hne1:wB.heap.size≠R:=by have:=kB.lt;omega
      have hne2:blk AC≠some wB.heap.size:=λe=>by have:=(kB.row _ e).2;omega
      have hB9:=hB;clear kB xB' rB hB gV;generalize (wB.alloc (.cells #[.int .i64 2, .int .i64 ((code.length:Int)+1), .int .i64 ((code.length:Int)+2+(L.length:Int)), .string ⟨#[]⟩] 143))=V at kV xV rV v0 v1 v2 v3 hzV ⊢;generalize wB.heap.size=b7 at v0 v1 v2 v3 hzV hne1 hne2 ⊢;have HE:=Lib.hid (rlay_any kV 2 ((code.length:Int)+1) ((code.length:Int)+2+(L.length:Int)) [] (by have:=HL.out.2;omega));go_upto_region 23 with (go_at_call 62;refine HE.out.mono ?_;rintro x wE ⟨rfl,AE,kE,xE⟩)
      have rE:Ri wE AB L:=rV.wx xE (λad ha=>by have:=hB9 ad ha;exact this);have xE':=xV.trans xE;have HP:=Lib.hid (rput_any kE cB rE HS.out (by have:=HL.out.2;simp;omega));clear xE xV kV rV v0 v1 v2 v3 hzV;go_upto_region 24 with (go_at_call 97;refine HP.out.mono ?_;rintro x wF ⟨rfl,AF,kF,xF⟩)
      have xF':=xE'.trans xF;have HG:=Lib.hid (rlay_any kF 3 (code.length:Int) 0 [] (by have:=HL.out.2;simp[mvL_len];omega));clear xF xE';go_wp2_with (go_at_call 62;refine HG.out.mono ?_;rintro x wG ⟨rfl,AG,kG,xG⟩);go_end0;rw[HT9.out];refine ⟨rfl,n7+1,_,_,_,_,by simp only[errE,J.out.1,J.out.2.1,cond_false];exact kG,xF'.trans xG,⟨by simp,?_⟩,λ_=>⟨J.out.1,?_,?_,by have:=J.out.2.2.2.2.1;omega,J.out.2.2.2.2.2⟩⟩
      ·have:=HB.out;have e3:(bif headIs 63 q2 then q2.drop 1 else q2).length<=q2.length:=by cases headIs 63 q2<;>simp
       simp only[J.out.2.1,cond_false,List.length_append,List.length_cons,List.length_nil,mvL_len];omega
      ·exact rep_star hP.out HLL.out _ _ (by rw[J.out.2.2.2.1];simp[splitI,HL.out.1];try omega)
      ·simp only[J.out.2.2.2.1,cond_true,cond_false];exact HDR.out
     case true=>
      rw[hz] at HM;have hlz:n7+1<s.size:=by
       rcases Nat.lt_or_ge (n7+1) s.size with h1|h1
       ·exact h1
       ·rw[List.drop_eq_nil_of_le (by simp;omega)] at hd2;rw[<-hd2] at hz;cases hz
      have HDR:=Lib.hid (show s.data.toList.drop (n7+1+1)=q2.drop 1 by rw[<-hd2,List.drop_drop]);have J:=Lib.hid (And.intro j1 (And.intro hb7 (And.intro hr2 (And.intro hz (And.intro hlz (And.intro j5 j6))))));clear hz hd2 hr2 hb7 j1 j5 j6 h42;go_upto_region 7 with (go_at_call 95;refine HM.out.mono ?_;rintro x wA ⟨rfl,gA⟩;have kA:=k9.gr gA;have xA:=x9.trans (WX.gr _ gA))
      clear k9 x9;obtain ⟨ccA,hcA⟩:=id kA;obtain ⟨c1,f1⟩:=And.intro hcA.c1 hcA.f1;rw[show ((n7+1:Nat):Int)=(n7:Int)+1 by omega] at c1;clear hcA;have hwq:IntKind.i64.wrap ((n7:Int)+1+1)=(n7:Int)+1+1:=IntWalk.i64_in _ (by omega);go_upto_region 9 with (fail)
      have kA2:=kA.setAt (n7+1+1);rw[show ((n7+1+1:Nat):Int)=(n7:Int)+1+1 by omega] at kA2;have xA2:=xA.set (p:=⟨R,1,none⟩) (.inl rfl) (.int .i64 ((n7:Int)+1+1));clear kA xA c1 f1;generalize wA.setCell ⟨R,1,none⟩ (.int .i64 ((n7:Int)+1+1))=wA2 at kA2 xA2 ⊢;have HC:=HCC.out _ _ kA2;have hLi:(L.length:Int)<=4000:=by have:=HL.out.2;omega
      have hai:(code.length:Int)<=4000:=by have:=HL.out.2;omega
      have HC2:=Lib.hid HC;clear HC;go_upto_region 19 with (go_at_call 96;refine HC2.out.mono ?_;rintro x wB ⟨AB,cB,AC,rfl,rB,kB,xB,hB⟩;have xB':=xA2.trans xB)
      clear kA2 xA2 xB;have gV:Gr wB (wB.alloc (.cells #[.int .i64 2, .int .i64 ((code.length:Int)+2+(L.length:Int)), .int .i64 ((code.length:Int)+1), .string ⟨#[]⟩] 143)):=Gr.alloc (Gr.refl wB) _;have kV:=kB.gr gV;have xV:=xB'.trans (WX.gr _ gV);have rV:=rB.gr gV;have v0:(wB.alloc (.cells #[.int .i64 2, .int .i64 ((code.length:Int)+2+(L.length:Int)), .int .i64 ((code.length:Int)+1), .string ⟨#[]⟩] 143)).cell? ⟨wB.heap.size,0,none⟩=some (.int .i64 2):=by go_simp
      have v1:(wB.alloc (.cells #[.int .i64 2, .int .i64 ((code.length:Int)+2+(L.length:Int)), .int .i64 ((code.length:Int)+1), .string ⟨#[]⟩] 143)).cell? ⟨wB.heap.size,1,none⟩=some (.int .i64 ((code.length:Int)+2+(L.length:Int))):=by go_simp
      have v2:(wB.alloc (.cells #[.int .i64 2, .int .i64 ((code.length:Int)+2+(L.length:Int)), .int .i64 ((code.length:Int)+1), .string ⟨#[]⟩] 143)).cell? ⟨wB.heap.size,2,none⟩=some (.int .i64 ((code.length:Int)+1)):=by go_simp
      have v3:(wB.alloc (.cells #[.int .i64 2, .int .i64 ((code.length:Int)+2+(L.length:Int)), .int .i64 ((code.length:Int)+1), .string ⟨#[]⟩] 143)).cell? ⟨wB.heap.size,3,none⟩=some (.string ⟨#[]⟩):=by go_simp
      have hzV:wB.heap.size<(wB.alloc (.cells #[.int .i64 2, .int .i64 ((code.length:Int)+2+(L.length:Int)), .int .i64 ((code.length:Int)+1), .string ⟨#[]⟩] 143)).heap.size:=by simp
      have hne1:wB.heap.size≠R:=by have:=kB.lt;omega
      have hne2:blk AC≠some wB.heap.size:=λe=>by have:=(kB.row _ e).2;omega
      have hB9:=hB;clear kB xB' rB hB gV;generalize (wB.alloc (.cells #[.int .i64 2, .int .i64 ((code.length:Int)+2+(L.length:Int)), .int .i64 ((code.length:Int)+1), .string ⟨#[]⟩] 143))=V at kV xV rV v0 v1 v2 v3 hzV ⊢;generalize wB.heap.size=b7 at v0 v1 v2 v3 hzV hne1 hne2 ⊢;have HE:=Lib.hid (rlay_any kV 2 ((code.length:Int)+2+(L.length:Int)) ((code.length:Int)+1) [] (by have:=HL.out.2;omega));go_upto_region 23 with (go_at_call 62;refine HE.out.mono ?_;rintro x wE ⟨rfl,AE,kE,xE⟩)
      have rE:Ri wE AB L:=rV.wx xE (λad ha=>by have:=hB9 ad ha;exact this);have xE':=xV.trans xE;have HP:=Lib.hid (rput_any kE cB rE HS.out (by have:=HL.out.2;simp;omega));clear xE xV kV rV v0 v1 v2 v3 hzV;go_upto_region 24 with (go_at_call 97;refine HP.out.mono ?_;rintro x wF ⟨rfl,AF,kF,xF⟩)
      have xF':=xE'.trans xF;have HG:=Lib.hid (rlay_any kF 3 (code.length:Int) 0 [] (by have:=HL.out.2;simp[mvL_len];omega));clear xF xE';go_wp2_with (go_at_call 62;refine HG.out.mono ?_;rintro x wG ⟨rfl,AG,kG,xG⟩);go_end0;rw[HT9.out];refine ⟨rfl,n7+1+1,_,_,_,_,by simp only[errE,J.out.1,J.out.2.1,cond_false];exact kG,xF'.trans xG,⟨by simp,?_⟩,λ_=>⟨J.out.1,?_,?_,by have:=J.out.2.2.2.2.1;omega,J.out.2.2.2.2.2⟩⟩
      ·have:=HB.out;have e3:(bif headIs 63 q2 then q2.drop 1 else q2).length<=q2.length:=by cases headIs 63 q2<;>simp
       simp only[J.out.2.1,cond_false,List.length_append,List.length_cons,List.length_nil,mvL_len];omega
      ·exact rep_star hP.out HLL.out _ _ (by rw[J.out.2.2.2.1];simp[splitI,HL.out.1];try omega)
      ·simp only[J.out.2.2.2.1,cond_true,cond_false];exact HDR.out
    ·have hT9:T=(.rep 43 (headIs 63 q2) t.1,{t.2 with rest:=bif headIs 63 q2 then q2.drop 1 else q2}):=by rw[HT.out];simp only[hb7,hr2,h43,cond_false];rfl
     have k43:((d.toNat:Int)==42)=false:=by simp[h43]
     have l43:((d.toNat:Int)==43)=true:=by simp[h43]
     have m43:((d.toNat:Int)==63)=false:=by simp[h43]
     have HT9:=Lib.hid hT9;clear hT9;go_upto_region 5 with (fail)
     obtain ⟨ccB,hcB⟩:=id k8;obtain ⟨c1,f1⟩:=And.intro hcB.c1 hcB.f1;clear hcB;have hwp:IntKind.i64.wrap ((n7:Int)+1)=(n7:Int)+1:=IntWalk.i64_in _ (by omega);go_upto_region 6 with (fail)
     have k9:=k8.setAt (n7+1);rw[show ((n7+1:Nat):Int)=(n7:Int)+1 by omega] at k9;have x9:=x8.set (p:=⟨R,1,none⟩) (.inl rfl) (.int .i64 ((n7:Int)+1));clear k8 x8 c1 f1;generalize w9.setCell ⟨R,1,none⟩ (.int .i64 ((n7:Int)+1))=w10 at k9 x9 ⊢;have HM:=Lib.hid (more_any k9 hs 63);rw[hd2] at HM;cases hz:headIs 63 q2;case false=>
      rw[hz] at HM;have HDR:=Lib.hid (show s.data.toList.drop (n7+1)=q2 from hd2);have J:=Lib.hid (And.intro j1 (And.intro hb7 (And.intro hr2 (And.intro hz (And.intro hn7 (And.intro j5 j6))))));clear hz hd2 hr2 hb7 j1 j5 j6 h43;go_upto_region 7 with (go_at_call 95;refine HM.out.mono ?_;rintro x wA ⟨rfl,gA⟩;have kA:=k9.gr gA;have xA:=x9.trans (WX.gr _ gA))
      clear k9 x9;go_upto_region 9 with (fail)
      have HC:=HCC.out _ _ kA;have hLi:(L.length:Int)<=4000:=by have:=HL.out.2;omega
      have hai:(code.length:Int)<=4000:=by have:=HL.out.2;omega
      have HC2:=Lib.hid HC;clear HC;go_upto_region 19 with (go_at_call 96;refine HC2.out.mono ?_;rintro x wB ⟨AB,cB,AC,rfl,rB,kB,xB,hB⟩;have xB':=xA.trans xB)
      clear kA xA xB;have gV:Gr wB (wB.alloc (.cells #[.int .i64 2, .int .i64 ((code.length:Int)), .int .i64 ((code.length:Int)+(L.length:Int)+1), .string ⟨#[]⟩] 143)):=Gr.alloc (Gr.refl wB) _;have kV:=kB.gr gV;have xV:=xB'.trans (WX.gr _ gV);have rV:=rB.gr gV;have v0:(wB.alloc (.cells #[.int .i64 2, .int .i64 ((code.length:Int)), .int .i64 ((code.length:Int)+(L.length:Int)+1), .string ⟨#[]⟩] 143)).cell? ⟨wB.heap.size,0,none⟩=some (.int .i64 2):=by go_simp
      have v1:(wB.alloc (.cells #[.int .i64 2, .int .i64 ((code.length:Int)), .int .i64 ((code.length:Int)+(L.length:Int)+1), .string ⟨#[]⟩] 143)).cell? ⟨wB.heap.size,1,none⟩=some (.int .i64 ((code.length:Int))):=by go_simp
      have v2:(wB.alloc (.cells #[.int .i64 2, .int .i64 ((code.length:Int)), .int .i64 ((code.length:Int)+(L.length:Int)+1), .string ⟨#[]⟩] 143)).cell? ⟨wB.heap.size,2,none⟩=some (.int .i64 ((code.length:Int)+(L.length:Int)+1)):=by go_simp
      have v3:(wB.alloc (.cells #[.int .i64 2, .int .i64 ((code.length:Int)), .int .i64 ((code.length:Int)+(L.length:Int)+1), .string ⟨#[]⟩] 143)).cell? ⟨wB.heap.size,3,none⟩=some (.string ⟨#[]⟩):=by go_simp
      have hzV:wB.heap.size<(wB.alloc (.cells #[.int .i64 2, .int .i64 ((code.length:Int)), .int .i64 ((code.length:Int)+(L.length:Int)+1), .string ⟨#[]⟩] 143)).heap.size:=by simp
      have hne1:wB.heap.size≠R:=by have:=kB.lt;omega
      have hne2:blk AC≠some wB.heap.size:=λe=>by have:=(kB.row _ e).2;omega
      have hB9:=hB;clear kB xB' rB hB gV;generalize (wB.alloc (.cells #[.int .i64 2, .int .i64 ((code.length:Int)), .int .i64 ((code.length:Int)+(L.length:Int)+1), .string ⟨#[]⟩] 143))=V at kV xV rV v0 v1 v2 v3 hzV ⊢;generalize wB.heap.size=b7 at v0 v1 v2 v3 hzV hne1 hne2 ⊢;have HP:=Lib.hid (rput_any kV cB rV HS.out (by have:=HL.out.2;omega));go_upto_region 21 with (go_at_call 97;refine HP.out.mono ?_;rintro x wD ⟨rfl,AD,kD,xD⟩)
      have hb9:wD.heap[b7]?=V.heap[b7]?:=xD.block b7 hzV hne1 hne2;have u0:=(World.cell?_of_block (a:=⟨b7,0,none⟩) hb9).trans v0;have u1:=(World.cell?_of_block (a:=⟨b7,1,none⟩) hb9).trans v1;have u2:=(World.cell?_of_block (a:=⟨b7,2,none⟩) hb9).trans v2;have u3:=(World.cell?_of_block (a:=⟨b7,3,none⟩) hb9).trans v3;have hzD:b7<wD.heap.size:=Nat.lt_of_lt_of_le hzV xD.size;have HE:=Lib.hid (rlay_any kD 2 ((code.length:Int)) ((code.length:Int)+(L.length:Int)+1) [] (by have:=HL.out.2;simp[mvL_len];omega));have xD':=xV.trans xD;clear xD xV kV rV v0 v1 v2 v3 hzV hb9;go_wp2_with (go_at_call 62;refine HE.out.mono ?_;rintro x wE ⟨rfl,AE,kE,xE⟩);go_end0;rw[HT9.out];refine ⟨rfl,n7+1,_,_,_,_,by simp only[errE,J.out.1,J.out.2.1,cond_false];exact kE,xD'.trans xE,⟨by simp,?_⟩,λ_=>⟨J.out.1,?_,?_,by have:=J.out.2.2.2.2.1;omega,J.out.2.2.2.2.2⟩⟩
      ·have:=HB.out;have e3:(bif headIs 63 q2 then q2.drop 1 else q2).length<=q2.length:=by cases headIs 63 q2<;>simp
       simp only[J.out.2.1,cond_false,List.length_append,List.length_cons,List.length_nil,mvL_len];omega
      ·exact rep_plus hP.out HLL.out _ _ (by rw[J.out.2.2.2.1];simp[splitI,HL.out.1];try omega)
      ·simp only[J.out.2.2.2.1,cond_true,cond_false];exact HDR.out
     case true=>
      rw[hz] at HM;have hlz:n7+1<s.size:=by
       rcases Nat.lt_or_ge (n7+1) s.size with h1|h1
       ·exact h1
       ·rw[List.drop_eq_nil_of_le (by simp;omega)] at hd2;rw[<-hd2] at hz;cases hz
      have HDR:=Lib.hid (show s.data.toList.drop (n7+1+1)=q2.drop 1 by rw[<-hd2,List.drop_drop]);have J:=Lib.hid (And.intro j1 (And.intro hb7 (And.intro hr2 (And.intro hz (And.intro hlz (And.intro j5 j6))))));clear hz hd2 hr2 hb7 j1 j5 j6 h43;go_upto_region 7 with (go_at_call 95;refine HM.out.mono ?_;rintro x wA ⟨rfl,gA⟩;have kA:=k9.gr gA;have xA:=x9.trans (WX.gr _ gA))
      clear k9 x9;obtain ⟨ccA,hcA⟩:=id kA;obtain ⟨c1,f1⟩:=And.intro hcA.c1 hcA.f1;rw[show ((n7+1:Nat):Int)=(n7:Int)+1 by omega] at c1;clear hcA;have hwq:IntKind.i64.wrap ((n7:Int)+1+1)=(n7:Int)+1+1:=IntWalk.i64_in _ (by omega);go_upto_region 9 with (fail)
      have kA2:=kA.setAt (n7+1+1);rw[show ((n7+1+1:Nat):Int)=(n7:Int)+1+1 by omega] at kA2;have xA2:=xA.set (p:=⟨R,1,none⟩) (.inl rfl) (.int .i64 ((n7:Int)+1+1));clear kA xA c1 f1;generalize wA.setCell ⟨R,1,none⟩ (.int .i64 ((n7:Int)+1+1))=wA2 at kA2 xA2 ⊢;have HC:=HCC.out _ _ kA2;have hLi:(L.length:Int)<=4000:=by have:=HL.out.2;omega
      have hai:(code.length:Int)<=4000:=by have:=HL.out.2;omega
      have HC2:=Lib.hid HC;clear HC;go_upto_region 19 with (go_at_call 96;refine HC2.out.mono ?_;rintro x wB ⟨AB,cB,AC,rfl,rB,kB,xB,hB⟩;have xB':=xA2.trans xB)
      clear kA2 xA2 xB;have gV:Gr wB (wB.alloc (.cells #[.int .i64 2, .int .i64 ((code.length:Int)+(L.length:Int)+1), .int .i64 ((code.length:Int)), .string ⟨#[]⟩] 143)):=Gr.alloc (Gr.refl wB) _;have kV:=kB.gr gV;have xV:=xB'.trans (WX.gr _ gV);have rV:=rB.gr gV;have v0:(wB.alloc (.cells #[.int .i64 2, .int .i64 ((code.length:Int)+(L.length:Int)+1), .int .i64 ((code.length:Int)), .string ⟨#[]⟩] 143)).cell? ⟨wB.heap.size,0,none⟩=some (.int .i64 2):=by go_simp
      have v1:(wB.alloc (.cells #[.int .i64 2, .int .i64 ((code.length:Int)+(L.length:Int)+1), .int .i64 ((code.length:Int)), .string ⟨#[]⟩] 143)).cell? ⟨wB.heap.size,1,none⟩=some (.int .i64 ((code.length:Int)+(L.length:Int)+1)):=by go_simp
      have v2:(wB.alloc (.cells #[.int .i64 2, .int .i64 ((code.length:Int)+(L.length:Int)+1), .int .i64 ((code.length:Int)), .string ⟨#[]⟩] 143)).cell? ⟨wB.heap.size,2,none⟩=some (.int .i64 ((code.length:Int))):=by go_simp
      have v3:(wB.alloc (.cells #[.int .i64 2, .int .i64 ((code.length:Int)+(L.length:Int)+1), .int .i64 ((code.length:Int)), .string ⟨#[]⟩] 143)).cell? ⟨wB.heap.size,3,none⟩=some (.string ⟨#[]⟩):=by go_simp
      have hzV:wB.heap.size<(wB.alloc (.cells #[.int .i64 2, .int .i64 ((code.length:Int)+(L.length:Int)+1), .int .i64 ((code.length:Int)), .string ⟨#[]⟩] 143)).heap.size:=by simp
      have hne1:wB.heap.size≠R:=by have:=kB.lt;omega
      have hne2:blk AC≠some wB.heap.size:=λe=>by have:=(kB.row _ e).2;omega
      have hB9:=hB;clear kB xB' rB hB gV;generalize (wB.alloc (.cells #[.int .i64 2, .int .i64 ((code.length:Int)+(L.length:Int)+1), .int .i64 ((code.length:Int)), .string ⟨#[]⟩] 143))=V at kV xV rV v0 v1 v2 v3 hzV ⊢;generalize wB.heap.size=b7 at v0 v1 v2 v3 hzV hne1 hne2 ⊢;have HP:=Lib.hid (rput_any kV cB rV HS.out (by have:=HL.out.2;omega));go_upto_region 21 with (go_at_call 97;refine HP.out.mono ?_;rintro x wD ⟨rfl,AD,kD,xD⟩)
      have hb9:wD.heap[b7]?=V.heap[b7]?:=xD.block b7 hzV hne1 hne2;have u0:=(World.cell?_of_block (a:=⟨b7,0,none⟩) hb9).trans v0;have u1:=(World.cell?_of_block (a:=⟨b7,1,none⟩) hb9).trans v1;have u2:=(World.cell?_of_block (a:=⟨b7,2,none⟩) hb9).trans v2;have u3:=(World.cell?_of_block (a:=⟨b7,3,none⟩) hb9).trans v3;have hzD:b7<wD.heap.size:=Nat.lt_of_lt_of_le hzV xD.size;have HE:=Lib.hid (rlay_any kD 2 ((code.length:Int)+(L.length:Int)+1) ((code.length:Int)) [] (by have:=HL.out.2;simp[mvL_len];omega));have xD':=xV.trans xD;clear xD xV kV rV v0 v1 v2 v3 hzV hb9;go_wp2_with (go_at_call 62;refine HE.out.mono ?_;rintro x wE ⟨rfl,AE,kE,xE⟩);go_end0;rw[HT9.out];refine ⟨rfl,n7+1+1,_,_,_,_,by simp only[errE,J.out.1,J.out.2.1,cond_false];exact kE,xD'.trans xE,⟨by simp,?_⟩,λ_=>⟨J.out.1,?_,?_,by have:=J.out.2.2.2.2.1;omega,J.out.2.2.2.2.2⟩⟩
      ·have:=HB.out;have e3:(bif headIs 63 q2 then q2.drop 1 else q2).length<=q2.length:=by cases headIs 63 q2<;>simp
       simp only[J.out.2.1,cond_false,List.length_append,List.length_cons,List.length_nil,mvL_len];omega
      ·exact rep_plus hP.out HLL.out _ _ (by rw[J.out.2.2.2.1];simp[splitI,HL.out.1];try omega)
      ·simp only[J.out.2.2.2.1,cond_true,cond_false];exact HDR.out
    ·have hT9:T=(.rep 63 (headIs 63 q2) t.1,{t.2 with rest:=bif headIs 63 q2 then q2.drop 1 else q2}):=by rw[HT.out];simp only[hb7,hr2,h63,cond_false];rfl
     have k63:((d.toNat:Int)==42)=false:=by simp[h63]
     have l63:((d.toNat:Int)==43)=false:=by simp[h63]
     have m63:((d.toNat:Int)==63)=true:=by simp[h63]
     have HT9:=Lib.hid hT9;clear hT9;go_upto_region 5 with (fail)
     obtain ⟨ccB,hcB⟩:=id k8;obtain ⟨c1,f1⟩:=And.intro hcB.c1 hcB.f1;clear hcB;have hwp:IntKind.i64.wrap ((n7:Int)+1)=(n7:Int)+1:=IntWalk.i64_in _ (by omega);go_upto_region 6 with (fail)
     have k9:=k8.setAt (n7+1);rw[show ((n7+1:Nat):Int)=(n7:Int)+1 by omega] at k9;have x9:=x8.set (p:=⟨R,1,none⟩) (.inl rfl) (.int .i64 ((n7:Int)+1));clear k8 x8 c1 f1;generalize w9.setCell ⟨R,1,none⟩ (.int .i64 ((n7:Int)+1))=w10 at k9 x9 ⊢;have HM:=Lib.hid (more_any k9 hs 63);rw[hd2] at HM;cases hz:headIs 63 q2;case false=>
      rw[hz] at HM;have HDR:=Lib.hid (show s.data.toList.drop (n7+1)=q2 from hd2);have J:=Lib.hid (And.intro j1 (And.intro hb7 (And.intro hr2 (And.intro hz (And.intro hn7 (And.intro j5 j6))))));clear hz hd2 hr2 hb7 j1 j5 j6 h63;go_upto_region 7 with (go_at_call 95;refine HM.out.mono ?_;rintro x wA ⟨rfl,gA⟩;have kA:=k9.gr gA;have xA:=x9.trans (WX.gr _ gA))
      clear k9 x9;go_upto_region 9 with (fail)
      have HC:=HCC.out _ _ kA;have hLi:(L.length:Int)<=4000:=by have:=HL.out.2;omega
      have hai:(code.length:Int)<=4000:=by have:=HL.out.2;omega
      have HC2:=Lib.hid HC;clear HC;go_upto_region 19 with (go_at_call 96;refine HC2.out.mono ?_;rintro x wB ⟨AB,cB,AC,rfl,rB,kB,xB,hB⟩;have xB':=xA.trans xB)
      clear kA xA xB;have gV:Gr wB (wB.alloc (.cells #[.int .i64 2, .int .i64 ((code.length:Int)+1), .int .i64 ((code.length:Int)+1+(L.length:Int)), .string ⟨#[]⟩] 143)):=Gr.alloc (Gr.refl wB) _;have kV:=kB.gr gV;have xV:=xB'.trans (WX.gr _ gV);have rV:=rB.gr gV;have v0:(wB.alloc (.cells #[.int .i64 2, .int .i64 ((code.length:Int)+1), .int .i64 ((code.length:Int)+1+(L.length:Int)), .string ⟨#[]⟩] 143)).cell? ⟨wB.heap.size,0,none⟩=some (.int .i64 2):=by go_simp
      have v1:(wB.alloc (.cells #[.int .i64 2, .int .i64 ((code.length:Int)+1), .int .i64 ((code.length:Int)+1+(L.length:Int)), .string ⟨#[]⟩] 143)).cell? ⟨wB.heap.size,1,none⟩=some (.int .i64 ((code.length:Int)+1)):=by go_simp
      have v2:(wB.alloc (.cells #[.int .i64 2, .int .i64 ((code.length:Int)+1), .int .i64 ((code.length:Int)+1+(L.length:Int)), .string ⟨#[]⟩] 143)).cell? ⟨wB.heap.size,2,none⟩=some (.int .i64 ((code.length:Int)+1+(L.length:Int))):=by go_simp
      have v3:(wB.alloc (.cells #[.int .i64 2, .int .i64 ((code.length:Int)+1), .int .i64 ((code.length:Int)+1+(L.length:Int)), .string ⟨#[]⟩] 143)).cell? ⟨wB.heap.size,3,none⟩=some (.string ⟨#[]⟩):=by go_simp
      have hzV:wB.heap.size<(wB.alloc (.cells #[.int .i64 2, .int .i64 ((code.length:Int)+1), .int .i64 ((code.length:Int)+1+(L.length:Int)), .string ⟨#[]⟩] 143)).heap.size:=by simp
      have hne1:wB.heap.size≠R:=by have:=kB.lt;omega
      have hne2:blk AC≠some wB.heap.size:=λe=>by have:=(kB.row _ e).2;omega
      have hB9:=hB;clear kB xB' rB hB gV;generalize (wB.alloc (.cells #[.int .i64 2, .int .i64 ((code.length:Int)+1), .int .i64 ((code.length:Int)+1+(L.length:Int)), .string ⟨#[]⟩] 143))=V at kV xV rV v0 v1 v2 v3 hzV ⊢;generalize wB.heap.size=b7 at v0 v1 v2 v3 hzV hne1 hne2 ⊢;have HE:=Lib.hid (rlay_any kV 2 ((code.length:Int)+1) ((code.length:Int)+1+(L.length:Int)) [] (by have:=HL.out.2;omega));go_upto_region 23 with (go_at_call 62;refine HE.out.mono ?_;rintro x wE ⟨rfl,AE,kE,xE⟩)
      have rE:Ri wE AB L:=rV.wx xE (λad ha=>by have:=hB9 ad ha;exact this);have xE':=xV.trans xE;have HP:=Lib.hid (rput_any kE cB rE HS.out (by have:=HL.out.2;simp;omega));clear xE xV kV rV v0 v1 v2 v3 hzV;go_wp2_with (go_at_call 97;refine HP.out.mono ?_;rintro x wF ⟨rfl,AF,kF,xF⟩);go_end0;rw[HT9.out];refine ⟨rfl,n7+1,_,_,_,_,by simp only[errE,J.out.1,J.out.2.1,cond_false];exact kF,xE'.trans xF,⟨by simp,?_⟩,λ_=>⟨J.out.1,?_,?_,by have:=J.out.2.2.2.2.1;omega,J.out.2.2.2.2.2⟩⟩
      ·have:=HB.out;have e3:(bif headIs 63 q2 then q2.drop 1 else q2).length<=q2.length:=by cases headIs 63 q2<;>simp
       simp only[J.out.2.1,cond_false,List.length_append,List.length_cons,List.length_nil,mvL_len];omega
      ·exact rep_maybe hP.out HLL.out _ _ (by rw[J.out.2.2.2.1];simp[splitI,HL.out.1];try omega)
      ·simp only[J.out.2.2.2.1,cond_true,cond_false];exact HDR.out
     case true=>
      rw[hz] at HM;have hlz:n7+1<s.size:=by
       rcases Nat.lt_or_ge (n7+1) s.size with h1|h1
       ·exact h1
       ·rw[List.drop_eq_nil_of_le (by simp;omega)] at hd2;rw[<-hd2] at hz;cases hz
      have HDR:=Lib.hid (show s.data.toList.drop (n7+1+1)=q2.drop 1 by rw[<-hd2,List.drop_drop]);have J:=Lib.hid (And.intro j1 (And.intro hb7 (And.intro hr2 (And.intro hz (And.intro hlz (And.intro j5 j6))))));clear hz hd2 hr2 hb7 j1 j5 j6 h63;go_upto_region 7 with (go_at_call 95;refine HM.out.mono ?_;rintro x wA ⟨rfl,gA⟩;have kA:=k9.gr gA;have xA:=x9.trans (WX.gr _ gA))
      clear k9 x9;obtain ⟨ccA,hcA⟩:=id kA;obtain ⟨c1,f1⟩:=And.intro hcA.c1 hcA.f1;rw[show ((n7+1:Nat):Int)=(n7:Int)+1 by omega] at c1;clear hcA;have hwq:IntKind.i64.wrap ((n7:Int)+1+1)=(n7:Int)+1+1:=IntWalk.i64_in _ (by omega);go_upto_region 9 with (fail)
      have kA2:=kA.setAt (n7+1+1);rw[show ((n7+1+1:Nat):Int)=(n7:Int)+1+1 by omega] at kA2;have xA2:=xA.set (p:=⟨R,1,none⟩) (.inl rfl) (.int .i64 ((n7:Int)+1+1));clear kA xA c1 f1;generalize wA.setCell ⟨R,1,none⟩ (.int .i64 ((n7:Int)+1+1))=wA2 at kA2 xA2 ⊢;have HC:=HCC.out _ _ kA2;have hLi:(L.length:Int)<=4000:=by have:=HL.out.2;omega
      have hai:(code.length:Int)<=4000:=by have:=HL.out.2;omega
      have HC2:=Lib.hid HC;clear HC;go_upto_region 19 with (go_at_call 96;refine HC2.out.mono ?_;rintro x wB ⟨AB,cB,AC,rfl,rB,kB,xB,hB⟩;have xB':=xA2.trans xB)
      clear kA2 xA2 xB;have gV:Gr wB (wB.alloc (.cells #[.int .i64 2, .int .i64 ((code.length:Int)+1+(L.length:Int)), .int .i64 ((code.length:Int)+1), .string ⟨#[]⟩] 143)):=Gr.alloc (Gr.refl wB) _;have kV:=kB.gr gV;have xV:=xB'.trans (WX.gr _ gV);have rV:=rB.gr gV;have v0:(wB.alloc (.cells #[.int .i64 2, .int .i64 ((code.length:Int)+1+(L.length:Int)), .int .i64 ((code.length:Int)+1), .string ⟨#[]⟩] 143)).cell? ⟨wB.heap.size,0,none⟩=some (.int .i64 2):=by go_simp
      have v1:(wB.alloc (.cells #[.int .i64 2, .int .i64 ((code.length:Int)+1+(L.length:Int)), .int .i64 ((code.length:Int)+1), .string ⟨#[]⟩] 143)).cell? ⟨wB.heap.size,1,none⟩=some (.int .i64 ((code.length:Int)+1+(L.length:Int))):=by go_simp
      have v2:(wB.alloc (.cells #[.int .i64 2, .int .i64 ((code.length:Int)+1+(L.length:Int)), .int .i64 ((code.length:Int)+1), .string ⟨#[]⟩] 143)).cell? ⟨wB.heap.size,2,none⟩=some (.int .i64 ((code.length:Int)+1)):=by go_simp
      have v3:(wB.alloc (.cells #[.int .i64 2, .int .i64 ((code.length:Int)+1+(L.length:Int)), .int .i64 ((code.length:Int)+1), .string ⟨#[]⟩] 143)).cell? ⟨wB.heap.size,3,none⟩=some (.string ⟨#[]⟩):=by go_simp
      have hzV:wB.heap.size<(wB.alloc (.cells #[.int .i64 2, .int .i64 ((code.length:Int)+1+(L.length:Int)), .int .i64 ((code.length:Int)+1), .string ⟨#[]⟩] 143)).heap.size:=by simp
      have hne1:wB.heap.size≠R:=by have:=kB.lt;omega
      have hne2:blk AC≠some wB.heap.size:=λe=>by have:=(kB.row _ e).2;omega
      have hB9:=hB;clear kB xB' rB hB gV;generalize (wB.alloc (.cells #[.int .i64 2, .int .i64 ((code.length:Int)+1+(L.length:Int)), .int .i64 ((code.length:Int)+1), .string ⟨#[]⟩] 143))=V at kV xV rV v0 v1 v2 v3 hzV ⊢;generalize wB.heap.size=b7 at v0 v1 v2 v3 hzV hne1 hne2 ⊢;have HE:=Lib.hid (rlay_any kV 2 ((code.length:Int)+1+(L.length:Int)) ((code.length:Int)+1) [] (by have:=HL.out.2;omega));go_upto_region 23 with (go_at_call 62;refine HE.out.mono ?_;rintro x wE ⟨rfl,AE,kE,xE⟩)
      have rE:Ri wE AB L:=rV.wx xE (λad ha=>by have:=hB9 ad ha;exact this);have xE':=xV.trans xE;have HP:=Lib.hid (rput_any kE cB rE HS.out (by have:=HL.out.2;simp;omega));clear xE xV kV rV v0 v1 v2 v3 hzV;go_wp2_with (go_at_call 97;refine HP.out.mono ?_;rintro x wF ⟨rfl,AF,kF,xF⟩);go_end0;rw[HT9.out];refine ⟨rfl,n7+1+1,_,_,_,_,by simp only[errE,J.out.1,J.out.2.1,cond_false];exact kF,xE'.trans xF,⟨by simp,?_⟩,λ_=>⟨J.out.1,?_,?_,by have:=J.out.2.2.2.2.1;omega,J.out.2.2.2.2.2⟩⟩
      ·have:=HB.out;have e3:(bif headIs 63 q2 then q2.drop 1 else q2).length<=q2.length:=by cases headIs 63 q2<;>simp
       simp only[J.out.2.1,cond_false,List.length_append,List.length_cons,List.length_nil,mvL_len];omega
      ·exact rep_maybe hP.out HLL.out _ _ (by rw[J.out.2.2.2.1];simp[splitI,HL.out.1];try omega)
      ·simp only[J.out.2.2.2.1,cond_true,cond_false];exact HDR.out
   ·have hrf:repC d.toNat=false:=by simpa using hrp
    have hT9:T=t:=by rw[HT.out,hb7,hr2];simp only[hrf];rfl
    have HT9:=Lib.hid hT9;have hx:(d.toNat==42)=false/\(d.toNat==43)=false/\(d.toNat==63)=false:=by simp[repC] at hrf;simp;omega
    obtain ⟨x42,x43,x63⟩:=hx;have y42:((d.toNat:Int)==42)=false:=by simp at x42 ⊢;omega
    have z42:((d.toNat:Int) != 42)=true:=by rw[bne,y42];rfl
    have y43:((d.toNat:Int)==43)=false:=by simp at x43 ⊢;omega
    have z43:((d.toNat:Int) != 43)=true:=by rw[bne,y43];rfl
    have y63:((d.toNat:Int)==63)=false:=by simp at x63 ⊢;omega
    have z63:((d.toNat:Int) != 63)=true:=by rw[bne,y63];rfl
    clear hT9 hrf hrp x42 x43 x63 hb7 hr2 j1 j2 j5 j6 hd2;go_wp2_with (fail);go_end0;rw[HT9.out];exact ⟨rfl,n7,d7,g7,A7,code7,by rw[He.out];exact k8,x8,k3,k4⟩
def rfM (R sz:Nat) (w:World):Nat:=
 match w.cell? ⟨R,3,none⟩,w.cell? ⟨R,1,none⟩ with
 | some (.int _ e),some (.int _ n)=>bif e==0 then sz+1-n.toNat else 0
 | _,_=>0
theorem RfW.m {w:World} {R n d e g:Nat} {s:ByteArray} {A:Option Addr} {code:List In} (h:RfW w R s n d e g A code):rfM R s.size w=bif e==0 then s.size+1-n else 0:=by
 obtain ⟨c,h⟩:=h;unfold rfM;rw[h.c3,h.c1];simp only[Int.toNat_natCast];cases e with
 | zero=>rfl
 | succ e=>rfl
structure RowJ (R N:Nat) (w:World) (s:ByteArray) (Wf:Rs->Pc×Rs) (q:Rs) (A:Option Addr) (code:List In) (T:PcL×Rs) (wr:World) (n1 d1 g1 k1:Nat) (q1:Rs) (A1:Option Addr) (code1:List In):Prop where
 h:RfW wr R s n1 d1 (errE q1) g1 A1 code1
 x:WX R w (blk A) wr (blk A1)
 len:code.length<=code1.length/\code1.length+2*(bif q1.bad then 0 else q1.rest.length)<=code.length+2*q.rest.length
 hk:q1.rest.length<k1
 t2:Hid ((rowS Wf k1 q1).2=T.2)
 good:Hid (q1.bad=false->q1.over=false/\s.data.toList.drop n1=q1.rest/\n1<=s.size/\d1=q1.deep/\g1=q1.groups/\Cd code1/\code1++(rowS Wf k1 q1).1.layR code1.length=code++T.1.layR code.length/\BdX q1/\q1.rest.length<=N)
theorem RowJ.gr {R N:Nat} {w:World} {s:ByteArray} {Wf:Rs->Pc×Rs} {q:Rs} {A:Option Addr} {code:List In} {T:PcL×Rs} {wr w':World} {n1 d1 g1 k1:Nat} {q1:Rs} {A1:Option Addr} {code1:List In} (I:RowJ R N w s Wf q A code T wr n1 d1 g1 k1 q1 A1 code1) (g:Gr wr w'):RowJ R N w s Wf q A code T w' n1 d1 g1 k1 q1 A1 code1:=
 ⟨I.h.gr g,I.x.trans (WX.gr _ g),I.len,I.hk,I.t2,I.good⟩
theorem RowJ.ret {R N:Nat} {w:World} {s:ByteArray} {Wf:Rs->Pc×Rs} {q:Rs} {A:Option Addr} {code:List In} {T:PcL×Rs} {wr:World} {n1 d1 g1 k1:Nat} {q1:Rs} {A1:Option Addr} {code1:List In} (I:RowJ R N w s Wf q A code T wr n1 d1 g1 k1 q1 A1 code1) (e:rowS Wf k1 q1=(.nil,q1)):RetR w R s q A code (.row T.1) T.2 (.returned (.tuple #[])) wr:=by
 have t:=I.t2.out;have g:=I.good.out;rw[e] at t g;simp only at t;rw[<-t];refine ⟨rfl,n1,d1,g1,A1,code1,I.h,I.x,I.len,λhb=>?_⟩;obtain ⟨j1,j2,j3,j4,j5, -,j7, -⟩:=g hb;simp only[PcL.layR,List.append_nil] at j7;exact ⟨j1,by simp only[Pc.lay];exact j7,j2,j3,j4,j5⟩
def RowX (R N:Nat) (w:World) (s:ByteArray) (Wf:Rs->Pc×Rs) (q:Rs) (A:Option Addr) (code:List In) (T:PcL×Rs) (wr:World):Prop:=∃n1 d1 g1 k1 q1 A1 code1,RowJ R N w s Wf q A code T wr n1 d1 g1 k1 q1 A1 code1
theorem RowJ.next {R N:Nat} {w:World} {s:ByteArray} {Wf:Rs->Pc×Rs} {q:Rs} {A:Option Addr} {code:List In} {T:PcL×Rs} {wr:World} {n1 d1 g1 k1:Nat} {q1:Rs} {A1:Option Addr} {code1:List In} {w5:World} {c:UInt8} {r:List UInt8} (hWf:∀s,Gd 0 s (Wf s).2) (hZ:∀s,BdX s->Sz s.rest.length (Wf s)) (I:RowJ R N w s Wf q A code T wr n1 d1 g1 (k1+1) q1 A1 code1) (hb4:code.length+2*q.rest.length<=4000) (hb:q1.bad=false) (hq:q1.rest=c::r) (hend:endR q1.rest=false) {x:Ending}
  (hp:RetR wr R s q1 A1 code1 (pieceS Wf q1).1 (pieceS Wf q1).2 x w5):RowX R N w s Wf q A code T w5/\rfM R s.size w5<rfM R s.size wr:=by
 have e1:rowS Wf (k1+1) q1=(.cons (pieceS Wf q1).1 (rowS Wf k1 (pieceS Wf q1).2).1,(rowS Wf k1 (pieceS Wf q1).2).2):=by
  conv=>lhs;unfold rowS
  rw[hb,hend];rfl
 obtain ⟨j1,j2,j3,j4,j5,j6,j7,j8,j9⟩:=I.good.out hb;obtain ⟨g1',g2'⟩:=pieceS_gd hWf hq;have hsz:=pieceS_sz hWf hZ hq j8;obtain ⟨-,n2,d2,g2,A2,code2,k1',x2,l2,good2⟩:=hp;have hlen:=I.len;have hk:=I.hk;have hl1:q1.rest.length=r.length+1:=by rw[hq];rfl
 have t2:=I.t2.out;rw[e1] at t2 j7;rw[hb] at hlen;simp only[cond_false] at hlen;generalize pieceS Wf q1=p at *;refine ⟨⟨n2,d2,g2,k1,p.2,A2,code2,k1',I.x.trans x2,⟨by omega,by omega⟩,by omega,Lib.hid t2,Lib.hid λhb2=>?_⟩,?_⟩
 ·obtain ⟨i1,i2,i3,i4,i5,i6⟩:=good2 hb2;have hc2:code2.length=code1.length+p.1.sz:=by rw[i2,List.length_append,Pc.lay_len]
  refine ⟨i1,i3,i4,i5,i6,?_,?_,g1'.bd j8,by omega⟩
  ·rw[i2];exact j6.lay hsz.2 (by omega)
  ·rw[hc2,i2,<-j7];simp only[PcL.layR,List.append_assoc]
 ·rw[I.h.m,k1'.m];have e0:errE q1=0:=by simp only[errE,hb,j1];rfl
  rw[e0];simp only[beq_self_eq_true,cond_true];cases hb2:p.2.bad
  ·obtain ⟨i1,i2,i3,i4,i5,i6⟩:=good2 hb2;have e2:errE p.2=0:=by simp only[errE,hb2,i1];rfl
   rw[e2];simp only[beq_self_eq_true,cond_true];have:=congrArg List.length i3;have h2:=congrArg List.length j2;simp at this h2;omega
  ·have e2:(errE p.2==0)=false:=by simp only[errE,hb2];cases p.2.over<;>rfl
   rw[e2];simp only[cond_false];omega
theorem rrow_any (Wf:Rs->Pc×Rs) (hWf:∀s,Gd 0 s (Wf s).2) (hZ:∀s,BdX s->Sz s.rest.length (Wf s)) {w:World} {R n:Nat} {s:ByteArray} {A:Option Addr} {code:List In} {q:Rs} (h:RfS w R s n q A code) (hs:(s.size:Int)<=4096) (hqb:q.over=false/\q.bad=false) (hcd:Cd code) (hb:code.length+2*q.rest.length<=4000) (N:Nat) (hN:q.rest.length<=N) (hB:BdX q)
  (HP:∀W m q A code c r,RfS W R s m q A code->q.rest=c::r->(q.over=false/\q.bad=false)->Cd code->code.length+2*q.rest.length<=4000->q.rest.length<=N->BdX q->Calls Tryz.prog 125 #[.pointer (some ⟨R,0,none⟩)] W (RetR W R s q A code (pieceS Wf q).1 (pieceS Wf q).2)) :
  Calls Tryz.prog 94 #[.pointer (some ⟨R,0,none⟩)] w (RetR w R s q A code (rowP Wf q).1 (rowP Wf q).2):=by
 unfold rowP;obtain ⟨T,hT⟩:∃T,rowS Wf (q.rest.length+1) q=T:=⟨_,rfl⟩
 rw[hT];have I0:RowX R N w s Wf q A code T w:=⟨n,q.deep,q.groups,q.rest.length+1,q,A,code,by have:=h.1;simp only[errE,hqb.1,hqb.2,cond_false];exact this,WX.refl _ _ _,⟨Nat.le_refl _,by rw[hqb.2];exact Nat.le_refl _⟩,Nat.lt_succ_self _,Lib.hid (by rw[hT]),Lib.hid λ_=>⟨hqb.1,h.2.1,h.2.2,rfl,rfl,hcd,by rw[hT],hB,hN⟩⟩
 have HPP:=Lib.hid HP;have Hx:=Lib.hid (And.intro hWf hZ);clear hT HP hWf hZ h hqb hcd hN hB;go_enter Tryz.func94,Tryz.ntmps94;go_wp2_with (fail)
 go_loopw [] (λwr=>RowX R N w s Wf q A code T wr) (λwr=>rfM R s.size wr)
 case atStart=>exact I0
 case round=>
  clear I0;obtain ⟨n1,d1,g1,k1,q1,A1,code1,I⟩:=hrel;obtain ⟨k1,rfl⟩:∃j,k1=j+1:=⟨k1-1,by have:=I.hk;omega⟩
  have hz:R<wr.heap.size:=I.h.lt;obtain ⟨cc7,hc7⟩:=id I.h;obtain ⟨c0,c1,c3⟩:=And.intro hc7.c0 (And.intro hc7.c1 hc7.c3);clear hc7;cases hb1:q1.bad;case true=>
   have hne:(((errE q1:Nat):Int)==0)=false:=by simp only[errE,hb1];cases q1.over<;>rfl
   have e1:rowS Wf (k1+1) q1=(.nil,q1):=by
    unfold rowS;rw[hb1];rfl
   have HE:=Lib.hid e1;clear e1;clear hb1;go_upto_region 0 with (fail)
   refine region_R (by kernel_rfl) (by kernel_rfl) ?_;(iterate 3 refine rv ?_);refine rv ?_ (h:=λW hW=>by have q3:=bc hW hz c3;go_light;go_simp<;>rfl);(iterate 2 refine rv ?_);(iterate 10 refine rs ?_);(iterate 2 refine rv ?_);(iterate 10 refine rs ?_);(iterate 2 refine rv ?_);(iterate 10 refine rs ?_);refine rv ?_;refine r_nil ?_;intro w8 hw8;go_wp2_with (fail);go_end0;exact (I.gr hw8).ret HE.out
  case false=>
   obtain ⟨j1,j2,j3,j4,j5,j6,j7,j8,j9⟩:=I.good.out hb1;have he:errE q1=0:=by simp only[errE,hb1,j1];rfl
   rw[he] at c3;rcases hr2:q1.rest with _|⟨d,r⟩
   ·have hn7:¬n1<s.size:=by
     rw[hr2] at j2;have:=congrArg List.length j2;simp at this;omega
    have hl:decide (n1<s.size)=false:=by simp;omega
    have e1:rowS Wf (k1+1) q1=(.nil,q1):=by
     unfold rowS;rw[hb1,hr2];rfl
    have HE:=Lib.hid e1;clear e1;clear hn7 he j1 j2 j3 j4 j5 j6 j7 j8 j9 hb1 hr2;go_upto_region 0 with (fail)
    refine region_R (by kernel_rfl) (by kernel_rfl) ?_;(iterate 3 refine rv ?_);refine rv ?_ (h:=λW hW=>by have q3:=bc hW hz c3;go_light;go_simp<;>rfl);(iterate 5 refine rv ?_);refine rv ?_ (h:=λW hW=>by have q1:=bc hW hz c1;go_light;go_simp<;>rfl);(iterate 3 refine rv ?_);refine rv ?_ (h:=λW hW=>by have q0:=bc hW hz c0;go_light;go_simp<;>rfl);(iterate 4 refine rv ?_);(iterate 10 refine rs ?_);(iterate 2 refine rv ?_);(iterate 10 refine rs ?_);refine rv ?_;refine r_nil ?_;intro w8 hw8;go_wp2_with (fail);go_end0;exact (I.gr hw8).ret HE.out
   ·have hl0:n1<s.data.toList.length:=by
     rcases Nat.lt_or_ge n1 s.data.toList.length with h1|h1
     ·exact h1
     ·rw[List.drop_eq_nil_of_le h1,hr2] at j2;cases j2
    have hn7:n1<s.size:=by simpa using hl0
    rw[List.drop_eq_getElem_cons hl0,hr2] at j2;have hdc:s[n1]=d:=by injection j2
    have hn3:(n1:Int)<(s.size:Int):=by omega
    have hl:decide (n1<s.size)=true:=by simp;omega
    have J:=Lib.hid (And.intro j1 (And.intro j6 j8));clear hl0 j1 j2 j3 j4 j5 j6 j7 j8 j9 he;by_cases h124:d.toNat=124
    ·have y1:((s[n1].toNat:Int)==124)=true:=by rw[hdc];simp;omega
     have z1:((s[n1].toNat:Int) != 124)=false:=by rw[bne,y1];rfl
     have e1:rowS Wf (k1+1) q1=(.nil,q1):=by
      unfold rowS;rw[hb1,hr2,show endR (d::r)=true by simp[endR,h124]];rfl
     have HE:=Lib.hid e1;clear e1;clear hb1 hr2 hdc h124;go_upto_region 0 with (fail)
     refine region_R (by kernel_rfl) (by kernel_rfl) ?_;(iterate 3 refine rv ?_);refine rv ?_ (h:=λW hW=>by have q3:=bc hW hz c3;go_light;go_simp<;>rfl);(iterate 5 refine rv ?_);refine rv ?_ (h:=λW hW=>by have q1:=bc hW hz c1;go_light;go_simp<;>rfl);(iterate 3 refine rv ?_);refine rv ?_ (h:=λW hW=>by have q0:=bc hW hz c0;go_light;go_simp<;>rfl);(iterate 7 refine rv ?_);refine rv ?_ (h:=λW hW=>by have q0:=bc hW hz c0;go_light;go_simp<;>rfl);(iterate 3 refine rv ?_);refine rv ?_ (h:=λW hW=>by have q1:=bc hW hz c1;go_light;go_simp<;>rfl);(iterate 4 refine rv ?_);(iterate 10 refine rs ?_);refine rv ?_;refine r_nil ?_;intro w8 hw8;go_wp2_with (fail);go_end0;exact (I.gr hw8).ret HE.out
    ·by_cases h41:d.toNat=41
     ·have y1:((s[n1].toNat:Int)==124)=false:=by rw[hdc];simp;omega
      have z1:((s[n1].toNat:Int) != 124)=true:=by rw[bne,y1];rfl
      have y2:((s[n1].toNat:Int)==41)=true:=by rw[hdc];simp;omega
      have z2:((s[n1].toNat:Int) != 41)=false:=by rw[bne,y2];rfl
      have e1:rowS Wf (k1+1) q1=(.nil,q1):=by
       unfold rowS;rw[hb1,hr2,show endR (d::r)=true by simp[endR,h41]];rfl
      have HE:=Lib.hid e1;clear e1;clear hb1 hr2 hdc h124 h41;go_upto_region 0 with (fail)
      refine region_R (by kernel_rfl) (by kernel_rfl) ?_;(iterate 3 refine rv ?_);refine rv ?_ (h:=λW hW=>by have q3:=bc hW hz c3;go_light;go_simp<;>rfl);(iterate 5 refine rv ?_);refine rv ?_ (h:=λW hW=>by have q1:=bc hW hz c1;go_light;go_simp<;>rfl);(iterate 3 refine rv ?_);refine rv ?_ (h:=λW hW=>by have q0:=bc hW hz c0;go_light;go_simp<;>rfl);(iterate 7 refine rv ?_);refine rv ?_ (h:=λW hW=>by have q0:=bc hW hz c0;go_light;go_simp<;>rfl);(iterate 3 refine rv ?_);refine rv ?_ (h:=λW hW=>by have q1:=bc hW hz c1;go_light;go_simp<;>rfl);(iterate 7 refine rv ?_);refine rv ?_ (h:=λW hW=>by have q0:=bc hW hz c0;go_light;go_simp<;>rfl);(iterate 3 refine rv ?_);refine rv ?_ (h:=λW hW=>by have q1:=bc hW hz c1;go_light;go_simp<;>rfl);(iterate 3 refine rv ?_);refine r_nil ?_;intro w8 hw8;go_wp2_with (fail);go_end0;exact (I.gr hw8).ret HE.out
     ·have y1:((s[n1].toNat:Int)==124)=false:=by rw[hdc];simp;omega
      have y2:((s[n1].toNat:Int)==41)=false:=by rw[hdc];simp;omega
      have z1:((s[n1].toNat:Int) != 124)=true:=by rw[bne,y1];rfl
      have z2:((s[n1].toNat:Int) != 41)=true:=by rw[bne,y2];rfl
      have HR:=Lib.hid (And.intro hb1 (And.intro hr2 (show endR q1.rest=false by rw[hr2];simp[endR,h124,h41])));clear hb1 hr2 hdc h124 h41;go_upto_region 0 with (fail)
      refine region_R (by kernel_rfl) (by kernel_rfl) ?_;(iterate 3 refine rv ?_);refine rv ?_ (h:=λW hW=>by have q3:=bc hW hz c3;go_light;go_simp<;>rfl);(iterate 5 refine rv ?_);refine rv ?_ (h:=λW hW=>by have q1:=bc hW hz c1;go_light;go_simp<;>rfl);(iterate 3 refine rv ?_);refine rv ?_ (h:=λW hW=>by have q0:=bc hW hz c0;go_light;go_simp<;>rfl);(iterate 7 refine rv ?_);refine rv ?_ (h:=λW hW=>by have q0:=bc hW hz c0;go_light;go_simp<;>rfl);(iterate 3 refine rv ?_);refine rv ?_ (h:=λW hW=>by have q1:=bc hW hz c1;go_light;go_simp<;>rfl);(iterate 7 refine rv ?_);refine rv ?_ (h:=λW hW=>by have q0:=bc hW hz c0;go_light;go_simp<;>rfl);(iterate 3 refine rv ?_);refine rv ?_ (h:=λW hW=>by have q1:=bc hW hz c1;go_light;go_simp<;>rfl);(iterate 3 refine rv ?_);refine r_nil ?_;intro w8 hw8;have I2:=I.gr hw8;obtain ⟨hb1,hr2,hend⟩:=HR.out;obtain ⟨j1,j2,j3,j4,j5,j6,j7,j8,j9⟩:=I2.good.out hb1;have hlen:=I2.len.2;rw[hb1,cond_false] at hlen;have h8:RfS w8 R s n1 q1 A1 code1:=⟨by have:=I2.h;rw[show errE q1=0 by simp only[errE,hb1,j1];rfl,j4,j5] at this;exact this,j2,j3⟩
      have HC:=Lib.hid (HPP.out w8 n1 q1 A1 code1 d r h8 hr2 ⟨j1,hb1⟩ j6 (by omega) j9 j8);clear h8 j1 j2 j3 j4 j5 j6 j7 j8 j9 hb1 hr2 hend hlen c0 c1 c3 hl y1 y2 z1 z2;have HN:Hid (∀x w9,RetR w8 R s q1 A1 code1 (pieceS Wf q1).1 (pieceS Wf q1).2 x w9->x= .returned (.tuple #[])/\Hid (RowX R N w s Wf q A code T w9/\rfM R s.size w9<rfM R s.size w8)):=Lib.hid λx w9 hp=>⟨hp.1,Lib.hid (I2.next Hx.out.1 Hx.out.2 hb HR.out.1 HR.out.2.1 HR.out.2.2 hp)⟩
      have Hm:Hid (rfM R s.size w8=rfM R s.size wr):=Lib.hid (by rw[I.h.m,I2.h.m]);clear I I2 HR;go_wp2_with (go_at_call 125;refine HC.out.mono ?_;rintro x w9 hp;obtain ⟨rfl,hnx⟩:=HN.out x w9 hp;clear hp);go_roundw;case rel=>first|exact hnx.out.1|exact ⟨hnx.out.1,rfl⟩
      case measure=>have:=hnx.out.2;rw[Hm.out] at this;exact this
end Go.Proofs.YtjapddfnpmlifaaGreatDoor
