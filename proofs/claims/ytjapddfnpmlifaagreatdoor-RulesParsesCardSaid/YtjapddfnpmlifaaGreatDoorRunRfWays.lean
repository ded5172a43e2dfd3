import Derived.Test.YtjapddfnpmlifaaGreatDoorRunRfPiece
import Derived.Test.YtjapddfnpmlifaaGreatDoorRunRxPutG
import Derived.Test.YtjapddfnpmlifaaGreatDoorRunFxBase
import Derived.Test.YtjapddfnpmlifaaGreatDoorRunRxComp
set_option linter.all false
set_option maxRecDepth 1000000
set_option maxHeartbeats 12800000
namespace Go.Proofs.YtjapddfnpmlifaaGreatDoor
open Go.RowKit
theorem RfW.form {w:World} {R n d e g:Nat} {s:ByteArray} {A:Option Addr} {code:List In} (h:RfW w R s n d e g A code) (h0:0<code.length):∃g,A=some ⟨g,0,none⟩:=by
 obtain ⟨c,h⟩:=h;obtain ⟨_,⟨_,h0'⟩|⟨g',cap,cur,hv,_⟩⟩:=h.own
 ·omega
 ·injection hv with hv1;exact ⟨g',hv1⟩
theorem RfW.putX {w:World} {R n d e g gA:Nat} {s:ByteArray} {code:List In} (h:RfW w R s n d e g (some ⟨gA,0,none⟩) code) {j:Nat} (hj:j<code.length) (x:Nat):RfW (w.setCell ⟨gA,j*4+1,none⟩ (.int .i64 x)) R s n d e g (some ⟨gA,0,none⟩) (putX x code j):=by
 obtain ⟨c,h⟩:=h;have hgl:=h.own.lt gA rfl;obtain ⟨o1, -⟩:=h.own.stored (j*4+1) (.int .i64 x);rw[icells_putX x code j hj] at o1;have o:∀i,(w.setCell ⟨gA,j*4+1,none⟩ (.int .i64 x)).cell? ⟨R,i,none⟩=w.cell? ⟨R,i,none⟩:=λi=>World.cell?_setCell_other w _ ⟨R,i,none⟩ _ (by first|(simp;done)|(simp;omega));refine ⟨c,(o 0).trans h.c0,(o 1).trans h.c1,(o 2).trans h.c2,(o 3).trans h.c3,(o 4).trans h.c4,?_,by rw[World.frozen?_setCell];exact h.f1,by rw[World.frozen?_setCell];exact h.f2,by rw[World.frozen?_setCell];exact h.f3,by rw[World.frozen?_setCell];exact h.f4,by rw[World.frozen?_setCell];exact h.f5,?_,by simpa using h.lt⟩
 ·rw[putX_len];exact (o 5).trans h.c5
 ·rw[putX_len];exact o1
theorem alt_lay {p u:Pc} {m:PcL} (a:Nat):(Pc.ways (.cons p (.cons u m))).lay a=⟨2,a+1,a+p.sz+2,[]⟩::(p.lay (a+1)++(⟨3,(a+p.sz+2+(PcL.cons u m).szW:Nat),0,[]⟩::(PcL.cons u m).layW (a+p.sz+2) (a+p.sz+2+(PcL.cons u m).szW))):=by
 simp only[Pc.lay,PcL.layW,PcL.szW];rw[show a+(p.sz+2+(PcL.cons u m).szW)=a+p.sz+2+(PcL.cons u m).szW by omega]
theorem rways_step (Wf:Rs->Pc×Rs) (hWf:∀s,Gd 0 s (Wf s).2) (hZ:∀s,BdX s->Sz s.rest.length (Wf s)) {w:World} {R n:Nat} {s:ByteArray} {A:Option Addr} {code:List In} {q:Rs} (h:RfS w R s n q A code) (hs:(s.size:Int)<=4096) (hcd:Cd code) (hb:code.length+2*q.rest.length<=4000) (hB:BdX q) (N:Nat) (hN:q.rest.length<=N) (k:Nat) (hk:q.rest.length<=k)
  (HR:Calls Tryz.prog 94 #[.pointer (some ⟨R,0,none⟩)] w (RetR w R s q A code (rowP Wf q).1 (rowP Wf q).2))
  (HK:∀W m q' A' code',RfS W R s m q' A' code'->(q'.over=false/\q'.bad=false)->Cd code'->code'.length+2*q'.rest.length<=4000->q'.rest.length<k->q'.rest.length<=N->BdX q'->Calls Tryz.prog 63 #[.pointer (some ⟨R,0,none⟩)] W (RetR W R s q' A' code' (lone (altS Wf k q').1) (altS Wf k q').2)) :
  Calls Tryz.prog 63 #[.pointer (some ⟨R,0,none⟩)] w (RetR w R s q A code (lone (altS Wf (k+1) q).1) (altS Wf (k+1) q).2):=by
 have hT2:=altS_cont Wf k q;have hgd:Gd 0 q (rowP Wf q).2:=rowS_gd hWf _ q;have hsz:Sz q.rest.length (rowP Wf q):=by
  have:=rowS_sz hWf hZ (q.rest.length+1) q hB;exact ⟨by simpa only[rowP,Pc.sz] using this.1,by simp only[rowP,Pc.ok];exact ⟨by have:=rowS_len Wf (q.rest.length+1) q;have:=hB.1;omega,this.2⟩⟩
 obtain ⟨t,ht⟩:∃t,t=rowP Wf q:=⟨_,rfl⟩
 obtain ⟨T,hT⟩:∃T,T=altS Wf (k+1) q:=⟨_,rfl⟩
 rw[<-ht] at HR hT2 hgd hsz;rw[<-hT] at hT2 ⊢;unfold contS at hT2;have HT:=Lib.hid hT2;have HRR:=Lib.hid HR;have HKK:=Lib.hid HK;have Hg:=Lib.hid (And.intro hgd (And.intro hsz (And.intro hk (And.intro hN hB))));have Hb:=Lib.hid hb;clear hT2 HR HK hT ht hgd hsz hk hN hB hWf hZ hb;obtain ⟨cc2,hc2⟩:=id h.1;have c5:=hc2.c5;clear hc2;go_enter Tryz.func63,Tryz.ntmps63;go_upto_region 2 with (go_at_call 94;refine HRR.out.mono ?_;rintro x w7 ⟨rfl,n7,d7,g7,A7,code7,k1,k2,k3,k4⟩)
 clear c5 h;obtain ⟨cc7,hc7⟩:=id k1;have c3:=hc7.c3;clear hc7;cases hb7:t.2.bad;case true=>
  have hne:(((errE t.2:Nat):Int)==0)=false:=by simp only[errE,hb7];cases t.2.over<;>rfl
  have hne2:(((errE t.2:Nat):Int) != 0)=true:=by rw[bne,hne];rfl
  have hT9:T=(.cons t.1 .nil,t.2):=by rw[HT.out,hb7];rfl
  have HT9:=Lib.hid hT9;clear hT9 hb7;go_wp2_with (fail);go_end0;rw[HT9.out];exact ⟨rfl,n7,d7,g7,A7,code7,k1,k2,k3,k4⟩
 case false=>
  obtain ⟨j1,j2,j3,j4,j5,j6⟩:=k4 hb7;have he:errE t.2=0:=by simp only[errE,hb7,j1];rfl
  have He:=Lib.hid he;rw[he] at c3;have HM:=Lib.hid (more_any k1 hs 124);rw[j3] at HM;cases h41:headIs 124 t.2.rest;case false=>
   rw[h41] at HM;have hT9:T=(.cons t.1 .nil,t.2):=by rw[HT.out,hb7,h41];rfl
   have HT9:=Lib.hid hT9;clear hT9 h41 j1 j2 j3 j4 j5 j6 he hb7;go_wp2_with (go_at_call 95;refine HM.out.mono ?_;rintro x w8 ⟨rfl,g8⟩;have k8:=k1.gr g8;have x8:=k2.trans (WX.gr _ g8));go_end0;rw[HT9.out];exact ⟨rfl,n7,d7,g7,A7,code7,k8,x8,k3,k4⟩
  case true=>
   rw[h41] at HM;obtain ⟨y,t1,ht1, -⟩:=headIs_cons h41;have hn7:n7<s.size:=by
    rcases Nat.lt_or_ge n7 s.size with h1|h1
    ·exact h1
    ·rw[List.drop_eq_nil_of_le (by simp;omega),ht1] at j3;cases j3
   obtain ⟨q',hq'⟩:∃q',q'={t.2 with rest:=t.2.rest.drop 1}:=⟨_,rfl⟩
   obtain ⟨Q,hQ⟩:∃Q,Q=altS Wf k q':=⟨_,rfl⟩
   have hT9:T=(.cons t.1 Q.1,Q.2):=by rw[HT.out,(by rw[hb7,h41];rfl:(!t.2.bad&&headIs 124 t.2.rest)=true),cond_true,hQ,hq']
   obtain ⟨hgd,hsz,hk,hN,hB⟩:=Hg.out;have hrl:q'.rest.length+1<=q.rest.length:=by
    have h1:=hgd.r;rw[hq',ht1];rw[ht1] at h1;simpa using h1
   have hQ9:∃p m,Q.1= .cons p m:=by
    obtain ⟨k',rfl⟩:∃k',k=k'+1:=⟨k-1,by omega⟩
    rw[hQ];exact altS_ne _ _ _
   obtain ⟨L,hL⟩:∃L,L=t.1.lay 0:=⟨_,rfl⟩
   have hLl:L.length=t.1.sz:=by rw[hL,Pc.lay_len]
   have hlen:=Hb.out;have hLb:code.length+L.length+2+2*q'.rest.length<=4000:=by
    have h1:=k3.2;rw[j2,hb7,ht1] at h1;rw[hq',ht1];simp[Pc.lay_len] at h1 ⊢;omega
   have hLo:L.length+2+2*q'.rest.length<=2*q.rest.length:=by
    have h1:=k3.2;rw[j2,hb7,ht1] at h1;rw[hq',ht1];simp[Pc.lay_len] at h1 ⊢;omega
   have hok:=hsz.2;have HS:Hid (Sm L):=Lib.hid (by rw[hL];exact Pc.lay_sm t.1 hok 0 (by omega));have HCC:Hid (∀W m',RfW W R s m' d7 0 g7 A7 (code++t.1.lay code.length)->Calls Tryz.prog 96 #[.pointer (some ⟨R,0,none⟩), .int .i64 (code.length:Int)] W (RetT W R s m' d7 0 g7 A7 code L)):=Lib.hid λW m' hW=>by
    have hcl:=hcd.lay hok (by omega:code.length+t.1.sz<=50000);have:=rcut_any hW code.length hcl.2 (by simp) hcl.1 (by simp[Pc.lay_len];omega);rw[List.take_left,List.drop_left,cut_lay _ hok,<-hL] at this;exact this
   have hqq:q'.over=false/\q'.bad=false/\d7=q'.deep/\g7=q'.groups:=by rw[hq'];exact ⟨j1,hb7,j5,j6⟩
   have hB':BdX q':=by rw[hq'];exact (hgd.trans (Gd.rest (r:=t.2.rest.drop 1) (by simp))).bd hB
   have hd9:s.data.toList.drop (n7+1)=q'.rest:=by rw[hq'];show _=t.2.rest.drop 1;rw[<-j3,List.drop_drop]
   have HKQ:Hid (∀W m A' code',RfS W R s m q' A' code'->Cd code'->code'.length+2*q'.rest.length<=4000->Calls Tryz.prog 63 #[.pointer (some ⟨R,0,none⟩)] W (RetR W R s q' A' code' (lone Q.1) Q.2)):=Lib.hid λW m A' code' h1 h2 h3=>by
    rw[hQ];exact HKK.out W m q' A' code' h1 ⟨hqq.1,hqq.2.1⟩ h2 h3 (by omega) (by omega) hB'
   rw[j2,he] at k1;have J:=Lib.hid (And.intro hqq (And.intro hd9 (And.intro hQ9 (And.intro hT9 (And.intro hL (And.intro hLl (And.intro hLb (And.intro hok (And.intro hrl hLo)))))))));have hn74:(n7:Int)<4096:=by omega
   have hLi:(L.length:Int)<=4000:=by omega
   have hai:(code.length:Int)<=4000:=by omega
   have hwp:IntKind.i64.wrap ((n7:Int)+1)=(n7:Int)+1:=IntWalk.i64_in _ (by omega);clear hT9 h41 j1 j2 j3 j4 j5 j6 k3 k4 he hb7 ht1 hq' hQ hQ9 hrl hLo hL hLl hLb hok hqq hB' hd9 hgd hsz hk hN hB hlen HKK HT HRR;go_upto_region 3 with (go_at_call 95;refine HM.out.mono ?_;rintro x w8 ⟨rfl,g8⟩;have k8:=k1.gr g8;have x8:=k2.trans (WX.gr _ g8))
   clear k1 k2 c3;obtain ⟨ccB,hcB⟩:=id k8;obtain ⟨c1,f1⟩:=And.intro hcB.c1 hcB.f1;clear hcB;go_upto_region 4 with (fail)
   have k9:=k8.setAt (n7+1);rw[show ((n7+1:Nat):Int)=(n7:Int)+1 by omega] at k9;have x9:=x8.set (p:=⟨R,1,none⟩) (.inl rfl) (.int .i64 ((n7:Int)+1));clear k8 x8 c1 f1;generalize w8.setCell ⟨R,1,none⟩ (.int .i64 ((n7:Int)+1))=w9 at k9 x9 ⊢;have HC2:=Lib.hid (HCC.out _ _ k9);go_upto_region 5 with (go_at_call 96;refine HC2.out.mono ?_;rintro x wB ⟨AB,cB,AC,rfl,rB,kB,xB,hB⟩;have xB':=x9.trans xB)
   have HE:=Lib.hid (rlay_any kB 2 ((code.length:Int)+1) ((code.length:Int)+2+(L.length:Int)) [] (by omega));clear k9 x9 xB;go_upto_region 6 with (go_at_call 62;refine HE.out.mono ?_;rintro x wC ⟨rfl,AD,kC,xC⟩;have xC':=xB'.trans xC;have rC:=rB.wx xC hB)
   have HP:=Lib.hid (rput_any kC cB rC HS.out (by have:=J.out.2.2.2.2.2.2.1;simp;omega));clear kB xB' xC rB hB;go_upto_region 7 with (go_at_call 97;refine HP.out.mono ?_;rintro x wD ⟨rfl,AE,kD,xD⟩;have xD':=xC'.trans xD)
   obtain ⟨codeD,hcD⟩:∃codeD,codeD=code++[(⟨2,(code.length:Int)+1,(code.length:Int)+2+(L.length:Int),[]⟩:In)]++mvL ((code++[(⟨2,(code.length:Int)+1,(code.length:Int)+2+(L.length:Int),[]⟩:In)]).length:Int) L:=⟨_,rfl⟩
   rw[<-hcD] at kD;obtain ⟨jj,hjj⟩:∃jj,jj=codeD.length:=⟨_,rfl⟩
   have hDl:codeD.length<=4000:=by have:=J.out.2.2.2.2.2.2.1;rw[hcD];simp[mvL_len];omega
   have HE2:=Lib.hid (rlay_any kD 3 0 0 [] hDl);rw[<-hjj] at HE2;obtain ⟨codeE,hcE0⟩:∃codeE,codeE=codeD++[(⟨3,0,0,[]⟩:In)]:=⟨_,rfl⟩
   rw[<-hcE0] at HE2;have hcE:codeE=code++[(⟨2,(code.length:Int)+1,(code.length:Int)+2+(L.length:Int),[]⟩:In)]++mvL ((code++[(⟨2,(code.length:Int)+1,(code.length:Int)+2+(L.length:Int),[]⟩:In)]).length:Int) L++[(⟨3,0,0,[]⟩:In)]:=by rw[hcE0,hcD]
   rw[hcD] at hjj;have HJJ:=Lib.hid (And.intro hjj hcE);clear hcE0 hcD hDl hjj hcE;clear kC xC' rC xD;go_upto_region 8 with (go_at_call 62;refine HE2.out.mono ?_;rintro x wE ⟨rfl,AF,kE,xE⟩;have xE':=xD'.trans xE)
   clear kD xD' xE;obtain ⟨hjj,hcE⟩:=HJJ.out;have hcE2:codeE=(code++((⟨2,(code.length:Int)+1,(code.length:Int)+t.1.sz+2,[]⟩:In)::t.1.lay (code.length+1)))++[(⟨3,0,0,[]⟩:In)]:=by
    obtain ⟨-, -, -, -,hL,hLl, -,hok, -⟩:=J.out;rw[hcE,hLl,hL];have:=put_lay t.1 hok (code.length+1);simp only[List.length_append,List.length_cons,List.length_nil,Nat.zero_add];rw[this];simp;omega
   have hjl:jj=code.length+1+t.1.sz:=by
    obtain ⟨-, -, -, -,hL,hLl, -,hok, -⟩:=J.out;rw[hjj];simp[mvL_len,hLl];omega
   have hEl:codeE.length=jj+1:=by rw[hcE2,hjl];simp[Pc.lay_len];omega
   have hcdE:Cd codeE:=by
    obtain ⟨-, -, -, -,hL,hLl,hLb,hok, -⟩:=J.out;rw[hcE2];refine Cd.snoc (v:=⟨3,0,0,[]⟩) ⟨Sm.app hcd.1 (Sm.cons ?_ (Pc.lay_sm t.1 hok _ (by omega))),by simp;omega⟩ (by simp);simp only;omega
   have HW:=Lib.hid (HKQ.out wE (n7+1) AF codeE ⟨by rw[<-J.out.1.2.2.1,<-J.out.1.2.2.2];exact kE,J.out.2.1,by omega⟩ hcdE (by have:=J.out.2.2.2.2.2.2.1;have:=J.out.2.2.2.2.2.1;omega));have HEE:=Lib.hid (And.intro hcE2 (And.intro hjl hEl));have hji:(jj:Int)<=4000:=by have:=J.out.2.2.2.2.2.2.1;have:=J.out.2.2.2.2.2.1;omega
   clear hjj hcE hcE2 hjl hEl hcdE kE HJJ;go_upto_region 9 with (go_at_call 63;refine HW.out.mono ?_;rintro x wF ⟨rfl,nF,dF,gF,AG,codeF,kF,xF,lF,goodF⟩;have xF':=xE'.trans xF)
   clear xE' xF;have hjF:jj<codeF.length:=by have:=HEE.out.2.2;omega
   obtain ⟨gA,rfl⟩:=kF.form (by omega);have hFl:codeF.length<=4000:=by
    have:=lF.2;have h1:=HEE.out.2.2;have h2:=HEE.out.2.1;have h3:=J.out.2.2.2.2.2.2.1;have h4:=J.out.2.2.2.2.2.1;omega
   obtain ⟨ccF,hcF⟩:=id kF;have c5:=hcF.c5;have hz:R<wF.heap.size:=kF.lt;have hgz:=(hcF.own.lt gA rfl).2;obtain ⟨u1,hu1⟩:∃u,wF.cell? ⟨gA,jj*4+1,none⟩=some u:=by
    have:=hcF.own.cellAt (jj*4+1) (by omega);rw[List.getElem?_eq_getElem (by have:=hcF.own.1;omega)] at this;exact ⟨_,this⟩
   have hfr:=hcF.own.frozenAt (jj*4+1);clear hcF;have hjF':(jj:Int)<(codeF.length:Int):=by omega
   have hFl':(codeF.length:Int)<=4000:=by omega
   refine region_T 12 (by kernel_rfl) (by kernel_rfl) ?_;simp only[List.take];(iterate 4 refine qv ?_);refine qv ?_ (h:=λW hW=>by have g1:=bc hW hz c5;go_simp<;>rfl);(iterate 5 refine qv ?_);refine qv ?_ (h:=λW hW=>by have g1:=bc hW hz c5;go_simp<;>rfl);refine qv ?_;refine wpQuiet_nil ?_;intro wG hwG;simp only[List.drop];have e1:=bc hwG hgz hu1;have e2:=bf hwG hgz hfr;clear hu1 hfr c5;go_wp2;go_end0;obtain ⟨hqq,hd9,⟨pQ,mQ,hQ9⟩,hT9,hL,hLl,hLb,hok,hrl⟩:=J.out;obtain ⟨hcE2,hjl,hEl⟩:=HEE.out;have kG:=(kF.gr hwG).putX hjF codeF.length;have xG:=(xF'.trans (WX.gr _ hwG)).set (p:=⟨gA,jj*4+1,none⟩) (.inr rfl) (.int .i64 codeF.length);rw[hT9];refine ⟨rfl,nF,dF,gF,_,_,kG,xG,⟨by rw[putX_len];omega,by rw[putX_len];have:=lF.2;have:=Hb.out;dsimp only;omega⟩,λhbF=>?_⟩;obtain ⟨i1,i2,i3,i4,i5,i6⟩:=goodF hbF;refine ⟨i1,?_,i3,i4,i5,i6⟩;rw[hQ9] at i2 ⊢;have e3:codeF.length=code.length+t.1.sz+2+(PcL.cons pQ mQ).szW:=by rw[i2,List.length_append,Pc.lay_len,lone_sz,hEl];omega
   have e4:codeE.length=code.length+t.1.sz+2:=by omega
   show putX codeF.length codeF jj=code++(Pc.ways (.cons t.1 (.cons pQ mQ))).lay code.length;rw[alt_lay,<-e3]
   conv=>lhs;arg 2;rw[i2]
   rw[lone_lay,e4,<-e3,hcE2];have e5:jj=(code++((⟨2,(code.length:Int)+1,(code.length:Int)+t.1.sz+2,[]⟩:In)::t.1.lay (code.length+1))).length:=by rw[hjl];simp[Pc.lay_len];omega
   rw[List.append_assoc,List.singleton_append,e5,putX_mid];simp
theorem openS_over (q:Rs):(openS q).2.over=q.over:=by
 unfold openS;cases (headIs 63 q.rest&&headIs 58 (q.rest.drop 1))<;>rfl
theorem rways_all {R:Nat} {s:ByteArray} (hs:(s.size:Int)<=4096) (n:Nat):∀(W:World) (m:Nat) (q:Rs) (A:Option Addr) (code:List In),RfS W R s m q A code->q.rest.length<n->BdX q->(q.over=false/\q.bad=false)->Cd code->code.length+2*q.rest.length<=4000->
  Calls Tryz.prog 63 #[.pointer (some ⟨R,0,none⟩)] W (RetR W R s q A code (waysS n q).1 (waysS n q).2):=by
 induction n with
 | zero=>intro W m q A code _ h;exact absurd h (Nat.not_lt_zero _)
 | succ n ih=>
  have hp:∀W m q A code c r,RfS W R s m q A code->q.rest=c::r->(q.over=false/\q.bad=false)->Cd code->code.length+2*q.rest.length<=4000->q.rest.length<=n->BdX q->Calls Tryz.prog 125 #[.pointer (some ⟨R,0,none⟩)] W (RetR W R s q A code (pieceS (waysS n) q).1 (pieceS (waysS n) q).2):=by
   intro W m q A code c r h hr hqb hcd hb hn hB;have hl:q.rest.length=r.length+1:=by rw[hr];rfl
   have hb1:=hB.1;have hb2:=hB.2;refine rpiece_any (waysS n) h hs hcd hb (atomS_sz (waysS_gd n) (waysS_sz n) hr hB).2 λW h=>?_;refine ratom_any (waysS n) h hs hr hqb (by omega) λW h=>?_;refine rgroup_any (waysS n) h hs hr hqb hcd hb (by omega) (by omega) (λo hb=>(waysS_gd n o).e hb) λW A' code' m' hcd hb h=>?_;obtain ⟨o1,o2,o3,o4⟩:=openS_gd {q with rest:=r,deep:=q.deep+1};simp only at o1 o2 o3 o4;exact ih W m' _ A' code' h (by omega) ⟨by omega,by omega⟩ ⟨by rw[openS_over];exact hqb.1,by rw[o4];exact hqb.2⟩ hcd hb
  have key:∀(k:Nat) (W:World) (m:Nat) (q:Rs) (A:Option Addr) (code:List In),RfS W R s m q A code->q.rest.length<=k->q.rest.length<=n->BdX q->(q.over=false/\q.bad=false)->Cd code->code.length+2*q.rest.length<=4000->
    Calls Tryz.prog 63 #[.pointer (some ⟨R,0,none⟩)] W (RetR W R s q A code (lone (altS (waysS n) (k+1) q).1) (altS (waysS n) (k+1) q).2):=by
   intro k;induction k with
   | zero=>
    intro W m q A code h hk hn hB hqb hcd hb;exact rways_step (waysS n) (waysS_gd n) (waysS_sz n) h hs hcd hb hB n hn 0 hk (rrow_any (waysS n) (waysS_gd n) (waysS_sz n) h hs hqb hcd hb n hn hB hp) (λW m q' A' code' _ _ _ _ h0=>absurd h0 (Nat.not_lt_zero _))
   | succ k ihk=>
    intro W m q A code h hk hn hB hqb hcd hb;exact rways_step (waysS n) (waysS_gd n) (waysS_sz n) h hs hcd hb hB n hn (k+1) hk (rrow_any (waysS n) (waysS_gd n) (waysS_sz n) h hs hqb hcd hb n hn hB hp) (λW m q' A' code' h1 h2 h3 h4 h5 h6 h7=>ihk W m q' A' code' h1 (Nat.le_of_lt_succ h5) h6 h7 h2 h3 h4)
  intro W m q A code h hq hB hqb hcd hb;exact key q.rest.length W m q A code h (Nat.le_refl _) (Nat.le_of_lt_succ hq) hB hqb hcd hb
def RWayOk (s:ByteArray):Prop:=∀(R n:Nat) (W:World) (m:Nat) (q:Rs) (A:Option Addr) (code:List In),RfS W R s m q A code->q.rest.length<n->BdX q->(q.over=false/\q.bad=false)->Cd code->code.length+2*q.rest.length<=4000->
  Calls Tryz.prog 63 #[.pointer (some ⟨R,0,none⟩)] W (RetR W R s q A code (waysS n q).1 (waysS n q).2)
theorem rf_new (w:World) (s:ByteArray):RfW (w.alloc (.cells #[.string s, .int .i64 0, .int .i64 0, .int .i64 0, .int .i64 0, .slice none 0 0] 140)) w.heap.size s 0 0 0 0 none []:=by
 refine ⟨0,?_,?_,?_,?_,?_,?_,?_,?_,?_,?_,?_,World.ownsRow_nil _ _ _ _,by simp⟩;all_goals go_simp
 all_goals try rfl
theorem RetR.first {w w5 w7:World} {R:Nat} {g:Option Nat} (x:WX R w5 none w7 g) (hw:Gr w w5) (hR:w.heap.size<=R):Gr w w7:=
 x.gr_new hw hR (λk h=>by cases h)
structure ErrS (w:World) (b R:Nat) (err:Int) (W:World):Prop where
 gr:Gr w W
 hz:R<W.heap.size
 ne:R=b+1
 c3:W.cell? ⟨R,3,none⟩=some (.int .i64 err)
 d0:W.cell? ⟨b,0,none⟩=some (.int .i64 0)
 d1:W.cell? ⟨b,1,none⟩=some (.slice none 0 0)
 e0:W.frozen? ⟨b,0,none⟩=false
 e1:W.frozen? ⟨b,1,none⟩=false
theorem ErrS.mk' {w:World} {b R:Nat} {err:Int} {W:World} (gr:Gr w W) (hz:R<W.heap.size) (ne:R=b+1) (c3:W.cell? ⟨R,3,none⟩=some (.int .i64 err)) (d0:W.cell? ⟨b,0,none⟩=some (.int .i64 0)) (d1:W.cell? ⟨b,1,none⟩=some (.slice none 0 0)) (e0:W.frozen? ⟨b,0,none⟩=false) (e1:W.frozen? ⟨b,1,none⟩=false):ErrS w b R err W:=⟨gr,hz,ne,c3,d0,d1,e0,e1⟩
theorem ErrS.kept {w:World} {R:Nat} {err:Int} {W:World} (h:ErrS w w.heap.size R err W):ErrS w w.heap.size R err ((W.setCell ⟨w.heap.size,0,none⟩ (.int .i64 0)).setCell ⟨w.heap.size,1,none⟩ (.slice none 0 0)):=by
 obtain ⟨g,hz,ne,c3,d0,d1,e0,e1⟩:=h;subst ne;refine ⟨(g.setCell (by simp) _).setCell (by simp) _,by simpa using hz,rfl,?_,?_,?_,?_,?_⟩;all_goals go_simp
theorem rcomp_of (s:ByteArray) (hs:s.size<=500) (HWY:RWayOk s) (w:World):Calls Tryz.prog 40 #[.string s] w (RetC w s.data.toList):=by
 have hs1:(s.size:Int)<=500:=by omega
 have hsz:=readS_sz (s:=s.data.toList) (by simp;exact hs);have hW:=λ(W:World) A code h hcd hb=>HWY (w.heap.size+1) (s.data.toList.length+1) W 0 ⟨s.data.toList,0,0,false,false⟩ A code h (Nat.lt_succ_self _) ⟨by simp;omega,by simp;omega⟩ ⟨rfl,rfl⟩ hcd hb;obtain ⟨t,ht⟩:∃t,t=readS s.data.toList:=⟨_,rfl⟩
 have ht2:waysS (s.data.toList.length+1) ⟨s.data.toList,0,0,false,false⟩=t:=by rw[ht];rfl
 rw[ht2] at hW;rw[<-ht] at hsz;have Hs:=Lib.hid (And.intro ht hsz);have HW:=Lib.hid hW;clear HWY;have hn:=rf_new (w.alloc (.cells #[.int .i64 0, .slice none 0 0] 98)) s;have hzz:(w.alloc (.cells #[.int .i64 0, .slice none 0 0] 98)).heap.size=w.heap.size+1:=by simp
 rw[hzz] at hn;have HL:=Lib.hid (rlay_any hn 4 0 0 [] (by simp));have hgx:Gr w ((w.alloc (.cells #[.int .i64 0, .slice none 0 0] 98)).alloc (.cells #[.string s, .int .i64 0, .int .i64 0, .int .i64 0, .int .i64 0, .slice none 0 0] 140)):=Gr.alloc (Gr.alloc (Gr.refl w) _) _;have hc0:((w.alloc (.cells #[.int .i64 0, .slice none 0 0] 98)).alloc (.cells #[.string s, .int .i64 0, .int .i64 0, .int .i64 0, .int .i64 0, .slice none 0 0] 140)).cell? ⟨w.heap.size,0,none⟩=some (.int .i64 0):=by go_simp
 have hc1:((w.alloc (.cells #[.int .i64 0, .slice none 0 0] 98)).alloc (.cells #[.string s, .int .i64 0, .int .i64 0, .int .i64 0, .int .i64 0, .slice none 0 0] 140)).cell? ⟨w.heap.size,1,none⟩=some (.slice none 0 0):=by go_simp
 have hf0:((w.alloc (.cells #[.int .i64 0, .slice none 0 0] 98)).alloc (.cells #[.string s, .int .i64 0, .int .i64 0, .int .i64 0, .int .i64 0, .slice none 0 0] 140)).frozen? ⟨w.heap.size,0,none⟩=false:=by go_simp
 have hf1:((w.alloc (.cells #[.int .i64 0, .slice none 0 0] 98)).alloc (.cells #[.string s, .int .i64 0, .int .i64 0, .int .i64 0, .int .i64 0, .slice none 0 0] 140)).frozen? ⟨w.heap.size,1,none⟩=false:=by go_simp
 have hzx:w.heap.size+1<((w.alloc (.cells #[.int .i64 0, .slice none 0 0] 98)).alloc (.cells #[.string s, .int .i64 0, .int .i64 0, .int .i64 0, .int .i64 0, .slice none 0 0] 140)).heap.size:=by simp
 have Hx:=Lib.hid (And.intro hgx (And.intro hc0 (And.intro hc1 (And.intro hf0 (And.intro hf1 hzx)))));clear ht ht2 hW hsz hn hzz hgx hc0 hc1 hf0 hf1 hzx;go_enter Tryz.func40,Tryz.ntmps40;go_upto_region 5 with (go_at_call 62;refine HL.out.mono ?_;rintro x w3 ⟨rfl,A3,k3,x3⟩)
 obtain ⟨hgx,hc0,hc1,hf0,hf1,hzx⟩:=Hx.out;generalize ((w.alloc (.cells #[.int .i64 0, .slice none 0 0] 98)).alloc (.cells #[.string s, .int .i64 0, .int .i64 0, .int .i64 0, .int .i64 0, .slice none 0 0] 140))=V at hgx hc0 hc1 hf0 hf1 hzx x3;have hcd:Cd ([]++[⟨4,0,0,[]⟩]:List In):=⟨Sm.cons (by simp) Sm.nil,by simp⟩
 have HC:=Lib.hid (HW.out w3 A3 _ ⟨k3,rfl,Nat.zero_le _⟩ hcd (by simp;omega));clear hcd;go_upto_region 6 with (go_at_call 63;refine HC.out.mono ?_;rintro x w7 ⟨rfl,n7,d7,g7,A7,code7,k1,x7,l7,good7⟩)
 have x9:=x3.trans x7;clear x3 x7 k3;obtain ⟨cc7,hc7⟩:=id k1;obtain ⟨c0,c1,c3⟩:=And.intro hc7.c0 (And.intro hc7.c1 hc7.c3);clear hc7;have hl7:code7.length<=1001:=by
  have:=l7.2;simp at this;omega
 cases hb7:t.2.bad;case true=>
  have hne:(((errE t.2:Nat):Int)==0)=false:=by simp only[errE,hb7];cases t.2.over<;>rfl
  have HE:Hid (errX s.data.toList=((errE t.2:Nat):Int)):=Lib.hid (by
   rw[errX,<-Hs.out.1];simp only[errE,hb7];cases t.2.over<;>rfl)
  have HEn:=Lib.hid hne;clear hb7 good7;have HL1:=Lib.hid (rlay_any k1 4 1 0 [] (by omega));go_upto_region 9 with (go_at_call 62;refine HL1.out.mono ?_;rintro x wA ⟨rfl,AA,kA,xA⟩)
  have HL2:=Lib.hid (rlay_any kA 7 0 0 [] (by simp;omega));clear k1;try clear c0 c1 c3
  go_upto_region 10 with (go_at_call 62;refine HL2.out.mono ?_;rintro x wB ⟨rfl,AB,kB,xB⟩)
  have xC:=(x9.trans xA).trans xB;obtain ⟨ccB,hcB⟩:=id kB;have c3:=hcB.c3;have hz:=kB.lt;have gB:Gr w wB:=RetR.first xC hgx (by omega)
  have gV:∀i,wB.cell? ⟨w.heap.size,i,none⟩=V.cell? ⟨w.heap.size,i,none⟩:=λi=>World.cell?_of_block (xC.block w.heap.size (by omega) (by omega) (by simp[blk]));have fV:∀i,wB.frozen? ⟨w.heap.size,i,none⟩=V.frozen? ⟨w.heap.size,i,none⟩:=λi=>World.frozen?_of_block (xC.block w.heap.size (by omega) (by omega) (by simp[blk]));have d0:=(gV 0).trans hc0;have d1:=(gV 1).trans hc1;have e0:=(fV 0).trans hf0;have e1:=(fV 1).trans hf1;clear gV fV hc0 hc1 hf0 hf1 hcB kA kB xA xB xC x9;have GB:=Lib.hid gB;clear gB hgx;have hne2:(((errE t.2:Nat):Int) != 0)=true:=by
   have:=HEn.out;rw[bne,this];rfl
  go_upto_region 11 with (fail)
  have hS0:ErrS w w.heap.size (w.heap.size+1) ((errE t.2:Nat):Int) wB.drew:=ErrS.mk' (GB.out.trans (Gr.drew (Gr.refl _))) hz rfl ((bc (Gr.drew (Gr.refl wB)) hz c3)) ((bc (Gr.drew (Gr.refl wB)) (by show w.heap.size<_;omega) d0)) ((bc (Gr.drew (Gr.refl wB)) (by show w.heap.size<_;omega) d1)) ((bf (Gr.drew (Gr.refl wB)) (by show w.heap.size<_;omega) e0)) ((bf (Gr.drew (Gr.refl wB)) (by show w.heap.size<_;omega) e1));refine wp_region_Z 6 (ErrS w w.heap.size (w.heap.size+1) ((errE t.2:Nat):Int)) (by kernel_rfl) ?_;obtain ⟨V9,hV9⟩:∃V9,V9=wB.drew:=⟨_,rfl⟩
  rw[<-hV9] at hS0 ⊢;clear hV9 c3 d0 d1 e0 e1 hz GB hne2;refine zu 0 hS0 ?_;refine zu 1 hS0 ?_;refine zu 2 hS0 ?_ (hy:=λW hS=>by obtain ⟨-, -, -,k3, -, -, -, -⟩:=hS;go_simp<;>rfl);refine zu 3 hS0 ?_;refine zu 4 hS0 ?_ (hy:=λW hS=>by obtain ⟨-,hz, -,k3, -, -, -, -⟩:=hS;go_simp<;>rfl);have q0:=hS0.d0;have q1:=hS0.d1;have p0:=hS0.e0;have p1:=hS0.e1;refine zs 5 rfl (λK hK=>?_);go_wp2_with fail;refine hK.out _ _ (λhnz=>?s13) (λ_=>?r13);case s13=>exact hS0.kept
  clear hK K;try simp only[Pu,Gl]
  clear q0 q1 p0 p1;refine zs 6 rfl (λK hK=>?_);go_wp2_with fail;refine hK.out _ _ (λhnz=>?s14) (λ_=>?r14);case s14=>exact absurd rfl hnz
  clear hK K;try simp only[Pu,Gl]
  refine wpAnyZ_done (by kernel_rfl) ?_ _;go_wp2;have q0:=hS0.d0;have q1:=hS0.d1;have p0:=hS0.e0;have p1:=hS0.e1;refine bodyPost_ret (v:= .tuple #[.agg #[.int .i64 0, .slice none 0 0], .int .i64 (errE t.2:Nat)]) (by simp[results,Tryz.results40,go_sem, *]) rfl ?_;exact RetC.err HE.out HEn.out hS0.kept.gr
 case false=>
  obtain ⟨j1,j2,j3,j4,j5,j6⟩:=good7 hb7;have he:errE t.2=0:=by simp only[errE,hb7,j1];rfl
  rw[he] at k1 c3;by_cases hr:t.2.rest=[]
  ·have hl:decide (n7<s.size)=false:=by
    rw[hr] at j3;have:=congrArg List.length j3;simp at this;simp;omega
   have HE:Hid (errX s.data.toList=0):=Lib.hid (by
    rw[errX,<-Hs.out.1,j1,hb7,hr];rfl)
   have HG:Hid (grpX s.data.toList=g7/\codeY s.data.toList=(code7++[⟨4,1,0,[]⟩])++[⟨7,0,0,[]⟩]):=Lib.hid (by
    refine ⟨?_,?_⟩
    ·rw[grpX,HE.out,<-Hs.out.1,j6];rfl
    ·rw[codeY,HE.out,j2,codeX,<-Hs.out.1];simp)
   have HL1:=Lib.hid (rlay_any k1 4 1 0 [] (by omega));clear hb7 j1 j2 j3 j4 j5 j6 hr he good7 l7;go_upto_region 9 with (go_at_call 62;refine HL1.out.mono ?_;rintro x wA ⟨rfl,AA,kA,xA⟩)
   have HL2:=Lib.hid (rlay_any kA 7 0 0 [] (by simp;omega));clear k1 c0 c1 c3 hl;go_upto_region 10 with (go_at_call 62;refine HL2.out.mono ?_;rintro x wB ⟨rfl,AB,kB,xB⟩)
   have xC:=(x9.trans xA).trans xB;obtain ⟨code8,hcode8⟩:∃c,c=(code7++[(⟨4,1,0,[]⟩:In)])++[⟨7,0,0,[]⟩]:=⟨_,rfl⟩
   rw[<-hcode8] at HG kB;have hl8:¬(1024:Int)<(code8.length:Int):=by rw[hcode8];simp;omega
   have hf8:0<code8.length:=by rw[hcode8];simp
   have Hf8:=Lib.hid hf8;clear hcode8 hl7 hf8;obtain ⟨cc8,hcB⟩:=id kB;obtain ⟨c3,c4,c5⟩:=And.intro hcB.c3 (And.intro hcB.c4 hcB.c5);have hz:=kB.lt;have own:=Lib.hid hcB.own;have gB:Gr w wB:=RetR.first xC hgx (by omega)
   have gV:∀i,wB.cell? ⟨w.heap.size,i,none⟩=V.cell? ⟨w.heap.size,i,none⟩:=λi=>World.cell?_of_block (xC.block w.heap.size (by omega) (by omega) (by simp[blk]));have fV:∀i,wB.frozen? ⟨w.heap.size,i,none⟩=V.frozen? ⟨w.heap.size,i,none⟩:=λi=>World.frozen?_of_block (xC.block w.heap.size (by omega) (by omega) (by simp[blk]));have d0:=(gV 0).trans hc0;have d1:=(gV 1).trans hc1;have e0:=(fV 0).trans hf0;have e1:=(fV 1).trans hf1;have Hform:=Lib.hid (kB.form Hf8.out);clear gV fV hc0 hc1 hf0 hf1 hcB kA kB xA xB xC x9;have GB:=Lib.hid gB;clear gB hgx;go_wp2;refine bodyPost_ret (v:= .tuple #[.agg #[.int .i64 g7, .slice AB code8.length cc8], .int .i64 0]) (by simp[results,Tryz.results40,go_sem, *]) rfl ?_;refine ⟨AB,cc8,?_,?_,(GB.out.setCell (by simp) _).setCell (by simp) _,λad h=>?_⟩
   ·rw[HE.out,HG.out.1,HG.out.2]
   ·rw[HG.out.2];exact Rd.own (own_setX (own_setX own.out (p:=⟨w.heap.size,0,none⟩) (by show w.heap.size<_;omega) _) (p:=⟨w.heap.size,1,none⟩) (by show w.heap.size<_;omega) _)
   ·have h5:=(own.out.lt ad.block (by rw[h];rfl)).1;obtain ⟨g,hg⟩:=Hform.out;rw[hg] at h;injection h with h;subst h;exact ⟨rfl,by have h6:w.heap.size+1+1<=g:=h5;show w.heap.size<=g;omega⟩
  ·have hn7:n7<s.size:=by
    rcases Nat.lt_or_ge n7 s.size with h1|h1
    ·exact h1
    ·rw[List.drop_eq_nil_of_le (by simp;omega)] at j3;exact absurd j3.symm hr
   have hl:decide (n7<s.size)=true:=by simp;omega
   have hn7i:(n7:Int)<(s.size:Int):=by omega
   have HE:Hid (errX s.data.toList=((8:Nat):Int)):=Lib.hid (by
    have hre:t.2.rest.isEmpty=false:=by rw[List.isEmpty_eq_false_iff];exact hr
    rw[errX,<-Hs.out.1,j1,hb7,hre];rfl)
   have HEn:Hid ((((8:Nat):Int)==0)=false):=Lib.hid (by decide);have HB:=Lib.hid (bad_new k1 8 rfl);clear hb7 j1 j2 j3 j4 j5 j6 hr he good7 hn7;go_upto_region 8 with (go_at_call 64;refine HB.out.mono ?_;rintro x w8 ⟨rfl,rfl⟩)
   have k8:=k1.setErr 8;have x8:=x9.set (p:=⟨w.heap.size+1,3,none⟩) (.inl rfl) (.int .i64 (8:Nat));clear k1 x9 c0 c1 c3 hl hn7i;generalize w7.setCell ⟨w.heap.size+1,3,none⟩ (.int .i64 (8:Nat))=w8 at k8 x8 ⊢;have k1:=k8;have x9:=x8;clear k8 x8;have HL1:=Lib.hid (rlay_any k1 4 1 0 [] (by omega));go_upto_region 9 with (go_at_call 62;refine HL1.out.mono ?_;rintro x wA ⟨rfl,AA,kA,xA⟩)
   have HL2:=Lib.hid (rlay_any kA 7 0 0 [] (by simp;omega));clear k1;try clear c0 c1 c3
   go_upto_region 10 with (go_at_call 62;refine HL2.out.mono ?_;rintro x wB ⟨rfl,AB,kB,xB⟩)
   have xC:=(x9.trans xA).trans xB;obtain ⟨ccB,hcB⟩:=id kB;have c3:=hcB.c3;have hz:=kB.lt;have gB:Gr w wB:=RetR.first xC hgx (by omega)
   have gV:∀i,wB.cell? ⟨w.heap.size,i,none⟩=V.cell? ⟨w.heap.size,i,none⟩:=λi=>World.cell?_of_block (xC.block w.heap.size (by omega) (by omega) (by simp[blk]));have fV:∀i,wB.frozen? ⟨w.heap.size,i,none⟩=V.frozen? ⟨w.heap.size,i,none⟩:=λi=>World.frozen?_of_block (xC.block w.heap.size (by omega) (by omega) (by simp[blk]));have d0:=(gV 0).trans hc0;have d1:=(gV 1).trans hc1;have e0:=(fV 0).trans hf0;have e1:=(fV 1).trans hf1;clear gV fV hc0 hc1 hf0 hf1 hcB kA kB xA xB xC x9;have GB:=Lib.hid gB;clear gB hgx;have hne2:(((8:Nat):Int) != 0)=true:=by
    have:=HEn.out;rw[bne,this];rfl
   go_upto_region 11 with (fail)
   have hS0:ErrS w w.heap.size (w.heap.size+1) ((8:Nat):Int) wB.drew:=ErrS.mk' (GB.out.trans (Gr.drew (Gr.refl _))) hz rfl ((bc (Gr.drew (Gr.refl wB)) hz c3)) ((bc (Gr.drew (Gr.refl wB)) (by show w.heap.size<_;omega) d0)) ((bc (Gr.drew (Gr.refl wB)) (by show w.heap.size<_;omega) d1)) ((bf (Gr.drew (Gr.refl wB)) (by show w.heap.size<_;omega) e0)) ((bf (Gr.drew (Gr.refl wB)) (by show w.heap.size<_;omega) e1));refine wp_region_Z 6 (ErrS w w.heap.size (w.heap.size+1) ((8:Nat):Int)) (by kernel_rfl) ?_;obtain ⟨V9,hV9⟩:∃V9,V9=wB.drew:=⟨_,rfl⟩
   rw[<-hV9] at hS0 ⊢;clear hV9 c3 d0 d1 e0 e1 hz GB hne2;refine zu 0 hS0 ?_;refine zu 1 hS0 ?_;refine zu 2 hS0 ?_ (hy:=λW hS=>by obtain ⟨-, -, -,k3, -, -, -, -⟩:=hS;go_simp<;>rfl);refine zu 3 hS0 ?_;refine zu 4 hS0 ?_ (hy:=λW hS=>by obtain ⟨-,hz, -,k3, -, -, -, -⟩:=hS;go_simp<;>rfl);have q0:=hS0.d0;have q1:=hS0.d1;have p0:=hS0.e0;have p1:=hS0.e1;refine zs 5 rfl (λK hK=>?_);go_wp2_with fail;refine hK.out _ _ (λhnz=>?s6) (λ_=>?r6);case s6=>exact hS0.kept
   clear hK K;try simp only[Pu,Gl]
   clear q0 q1 p0 p1;refine zs 6 rfl (λK hK=>?_);go_wp2_with fail;refine hK.out _ _ (λhnz=>?s7) (λ_=>?r7);case s7=>exact absurd rfl hnz
   clear hK K;try simp only[Pu,Gl]
   refine wpAnyZ_done (by kernel_rfl) ?_ _;go_wp2;have q0:=hS0.d0;have q1:=hS0.d1;have p0:=hS0.e0;have p1:=hS0.e1;refine bodyPost_ret (v:= .tuple #[.agg #[.int .i64 0, .slice none 0 0], .int .i64 (8:Nat)]) (by simp[results,Tryz.results40,go_sem, *]) rfl ?_;exact RetC.err HE.out HEn.out hS0.kept.gr
theorem rcomp_any (s:ByteArray) (hs:s.size<=500) (w:World):Calls Tryz.prog 40 #[.string s] w (RetC w s.data.toList):=
 rcomp_of s hs (λR n W m q A code=>rways_all (by omega) n W m q A code) w
end Go.Proofs.YtjapddfnpmlifaaGreatDoor
