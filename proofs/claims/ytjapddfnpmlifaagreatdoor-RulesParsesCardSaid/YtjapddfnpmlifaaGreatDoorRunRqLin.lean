import Derived.Test.YtjapddfnpmlifaaGreatDoorRunRqMem
import Derived.Test.YtjapddfnpmlifaaGreatDoorRunRqDec
import Derived.Test.YtjapddfnpmlifaaGreatDoorRunRpLin
import Derived.Test.YtjapddfnpmlifaaGreatDoorRunRuRetR
import Derived.Test.YtjapddfnpmlifaaGreatDoorRunRfWays
import Derived.Test.YtjapddfnpmlifaaGreatDoorRunFxBase
import Derived.Test.YtjapddfnpmlifaaGreatDoorRunPrArmA
set_option linter.all false
set_option maxRecDepth 1000000
set_option maxHeartbeats 12800000
namespace Go.Proofs.YtjapddfnpmlifaaGreatDoor
open Go.RowKit
def LnQ (w:World) (R B0:Nat) (wr:World) (l:List Qs) (m:List Qr) (v1 v2:Value) (a:Ln) (e:Ending) (w':World):Prop:=match a with
 | .bad=>e= .returned (.bool false)/\Gr w w'
 | .s v=>e= .returned (.bool true)/\∃s v',s.p=v/\RqM w R B0 w' (l++[s]) m v' v2/\∀k,k<B0->k≠R->w'.heap[k]?=wr.heap[k]?
 | .r v=>e= .returned (.bool true)/\∃s v',s.p=v/\RqM w R B0 w' l (m++[s]) v1 v'/\∀k,k<B0->k≠R->w'.heap[k]?=wr.heap[k]?
theorem LnQ.bad' {w:World} {R B0:Nat} {wr:World} {l:List Qs} {m:List Qr} {v1 v2:Value} {a:Ln} {w':World} {b:Bool} (h:a= .bad) (hb:b=false) (g:Gr w w'):LnQ w R B0 wr l m v1 v2 a (.returned (.bool b)) w':=by subst h hb;exact ⟨rfl,g⟩
def SqS (R o b:Nat) (v:Value) (x:ByteArray) (X:World->Prop) (W:World):Prop:=
 W.cell? ⟨R,o,none⟩=some v/\W.frozen? ⟨R,o,none⟩=false/\W.cell? ⟨b,1,none⟩=some (.string x)/\X W/\R<W.heap.size/\b<W.heap.size
theorem SqS.kept {R o b:Nat} {v:Value} {x:ByteArray} {X:World->Prop} {W W':World} (h:SqS R o b v x X W) (hs:W.heap.size<=W'.heap.size) (hR:W'.heap[R]?=W.heap[R]?) (hb:W'.heap[b]?=W.heap[b]?) (hX:X W'):SqS R o b v x X W':=by
 obtain ⟨h0,h1,h2, -,h5,h6⟩:=h;exact ⟨(World.cell?_of_block (a:=⟨R,o,none⟩) hR).trans h0,(World.frozen?_of_block (a:=⟨R,o,none⟩) hR).trans h1,(World.cell?_of_block (a:=⟨b,1,none⟩) hb).trans h2,hX,Nat.lt_of_lt_of_le h5 hs,Nat.lt_of_lt_of_le h6 hs⟩
theorem words_short {q:List (List UInt8)} (h:q.length<2):wordsS q= .bad:=by
 match q,h with
 | [],_=>rfl
 | [_],_=>rfl
theorem words_pat {q:List (List UInt8)} (h1:1<q.length) (h:patB q[1]=false):wordsS q= .bad:=by
 match q,h1,h with
 | [_,_],_,_=>rfl
 | [a,x,y],_,h=>
  have h:patB x=false:=h;rw[words3];unfold schS;rw[h];cases (a==wSch)<;>rfl
 | [a,x,y,z],_,h=>
  have h:patB x=false:=h;rw[words4];unfold rulS;rw[h];cases (a==wRul)<;>rfl
 | _::_::_::_::_::_,_,_=>rfl
theorem decV_le {l:List UInt8} {n:Int} (h:decV l=some n): -4611686018427387904<=n/\n<=4611686018427387904:=by
 unfold decV at h;cases ha:absD (bareS l) with
 | none=>rw[ha] at h;cases h
 | some k=>
  rw[ha] at h;cases hb:Nat.ble k maxN
  ·simp only[hb,cond_false] at h;cases h
  ·have hk:k<=maxN:=Nat.le_of_ble_eq_true hb;unfold maxN at hk;simp only[hb,cond_true,Option.some.injEq] at h;cases hm:minusS l<;>rw[hm] at h<;>simp only[cond_true,cond_false] at h<;>omega
theorem less_one {xn:Int} (h0: -4611686018427387904<=xn) (h1:xn<=4611686018427387904):lessB (intV 1) ⟨true,xn⟩=decide (1000000<xn):=by
 have e:intV 1=⟨true,1000000⟩:=by
  unfold intV;rw[show (decide ((-4611686018427:Int)<=1)&&decide ((1:Int)<=4611686018427))=true by decide,cond_true];exact ofV_in (by decide) (by decide)
 rw[e];simp[lessB,knB,isB,h0,h1]
theorem rline_any {w wr:World} {R B0:Nat} {l:List Qs} {m:List Qr} {v1 v2:Value} (h:RqM w R B0 wr l m v1 v2) (s:ByteArray) (hs:(s.size:Int)<=300) (hl:l.length<=1000) (hml:m.length<=1000) :
  Calls Tryz.prog 28 #[.pointer (some ⟨R,0,none⟩), .string s] wr (LnQ w R B0 wr l m v1 v2 (lineS s.data.toList)):=by
 obtain ⟨q,hq⟩:∃q,q=partS 32 s.data.toList:=⟨_,rfl⟩
 have HL:Hid (lineS s.data.toList=wordsS q):=Lib.hid (by rw[hq];rfl);have HSP:=Lib.hid (ref_split s (by omega) 32 wr);rw[<-hq] at HSP;have hsz:s.data.toList.length=s.size:=by simp
 have hql:(q.length:Int)<=301:=by
  have:=partS_len 32 s.data.toList;rw[<-hq] at this;omega
 have HQP:Hid (∀p∈q,(p.length:Int)<=300):=Lib.hid λp hp=>by
  have:=(partS_mem 32 s.data.toList p (hq▸hp)).1;omega
 have Hh:=Lib.hid h;have hRl:R<wr.heap.size:=Nat.lt_of_lt_of_le h.lt h.sz;clear h hq hsz;go_enter Tryz.func28,Tryz.ntmps28;go_upto_region 2 with (go_at_call 27;refine HSP.out.mono ?_;rintro e w1 ⟨b,cp,rfl,hb0,hb,hS,g1⟩)
 have G1:=Lib.hid (Hh.out.gr.trans g1);have G0:=Lib.hid g1;have h1:=Lib.hid (Two.gr' Hh.out g1);have HS:=Lib.hid hS;clear g1 hS HSP;by_cases h2:q.length<2
 ·have HB:Hid (lineS s.data.toList= .bad):=Lib.hid (by rw[HL.out];exact words_short h2);have h2i:(q.length:Int)<2:=by omega
  clear h2;go_wp2;go_ret;exact LnQ.bad' HB.out rfl G1.out
 have h2i:¬(q.length:Int)<2:=by omega
 have h2l:1<q.length:=by omega
 obtain ⟨x,hx⟩:∃x,x=q[1]'h2l:=⟨_,rfl⟩
 obtain ⟨a,ha⟩:∃a,a=q[0]'(Nat.lt_trans Nat.zero_lt_one h2l):=⟨_,rfl⟩
 have c0:w1.cell? ⟨b,0,none⟩=some (.string ⟨a.toArray⟩):=by rw[ha];exact HS.out 0 (by omega)
 have c1:w1.cell? ⟨b,1,none⟩=some (.string ⟨x.toArray⟩):=by rw[hx];exact HS.out 1 h2l
 have hxl:(x.length:Int)<=300:=HQP.out x (by rw[hx];exact List.getElem_mem _);have HCP:=Lib.hid (rcomp_any ⟨x.toArray⟩ (by show x.toArray.size<=500;rw[List.size_toArray];omega) w1);obtain ⟨E,hE⟩:∃E,E=errX x:=⟨_,rfl⟩
 have HX1:=Lib.hid (And.intro hx (And.intro ha hE));have HCP2:Hid (Calls Tryz.prog 40 #[.string ⟨x.toArray⟩] w1 λe w'=>∃g n P pc,e= .returned (.tuple #[.agg #[.int .i64 g, .slice P n pc], .int .i64 E])/\Gr w1 w'):=Lib.hid (HCP.out.mono λe w' hc=>(by
  obtain ⟨P,pc,e1, -,hg, -⟩:=hc;exact ⟨_,_,P,pc,by rw[e1,hE],hg⟩))
 clear hx ha hE HCP h2;go_upto_region 5 with (go_at_call 40;refine HCP2.out.mono ?_;rintro e w2 ⟨g,n,P,pc,rfl,g2⟩)
 obtain ⟨w3,hw3⟩:∃w3,w3=w2.alloc (.cells #[.int .i64 g, .slice P n pc] 98):=⟨_,rfl⟩
 have g3:Gr w1 w3:=by rw[hw3];exact g2.alloc _
 replace c0:=bc g3 hb c0;replace c1:=bc g3 hb c1;have hb3:b<w3.heap.size:=Nat.lt_of_lt_of_le hb g3.size;have hcs:Hid (∀k (h:k<q.length),w3.cell? ⟨b,k,none⟩=some (.string ⟨q[k].toArray⟩)):=Lib.hid λk h=>(bc g3 hb (HS.out k h))
 have h3:=Lib.hid (Two.gr' h1.out g3);have G3:=Lib.hid (G1.out.trans g3);have G03:=Lib.hid (G0.out.trans g3);rw[<-hw3];clear hw3 g2 g3 hb HCP2 HS h1 G1 G0;have hpat:Hid (patB x=false->lineS s.data.toList= .bad):=Lib.hid λh=>by rw[HL.out];exact words_pat (by omega) (by rw[<-HX1.out.1];exact h)
 by_cases hE0:E=0;rotate_left
 ·have HB:=Lib.hid (hpat.out (pat_no (by rw[<-HX1.out.2.2];exact hE0)));have hE2:(E==0)=false:=beq_eq_false_iff_ne.2 hE0;have hE3:(E != 0)=true:=by unfold bne;rw[hE2];rfl
  clear hE0;go_wp2;go_ret;exact LnQ.bad' HB.out rfl G3.out
 subst hE0;obtain ⟨X,hX⟩:∃X:ByteArray,X=⟨x.toArray⟩:=⟨_,rfl⟩
 obtain ⟨Aw,hAw⟩:∃Aw:ByteArray,Aw=⟨a.toArray⟩:=⟨_,rfl⟩
 have hxe:(X.toList==[])=x.isEmpty:=by rw[hX,toList_data_ru];cases x<;>rfl
 have hxe2:X.toList.isEmpty=x.isEmpty:=by rw[hX,toList_data_ru]
 cases hx0:x.isEmpty;rotate_left
 ·have HB:=Lib.hid (hpat.out (by unfold patB;rw[hx0];rfl));rw[hx0] at hxe hxe2;rw[<-hX] at c1;clear hX hx0;go_wp2;go_ret;exact LnQ.bad' HB.out rfl G3.out
 have hp:Hid (patB x=true):=Lib.hid (by unfold patB;rw[hx0,<-HX1.out.2.2];rfl);rw[hx0] at hxe hxe2;rw[<-hX] at c1;rw[<-hAw] at c0;have hs1:(Aw.toList==[115,99,104,101,109,97])=(a==wSch):=by rw[hAw,toList_data_ru];rfl
 have hr1:(Aw.toList==[114,117,108,101])=(a==wRul):=by rw[hAw,toList_data_ru];rfl
 have HXX:=Lib.hid hX;clear hX hAw hx0 hpat;obtain ⟨n',hn'⟩:∃n',n'=q.length:=⟨_,rfl⟩
 rw[<-hn'] at hql h2i ⊢;have HN:=Lib.hid hn';clear hn';by_cases hA:(a==wSch)=true/\n'=3
 ·obtain ⟨ha,rfl⟩:=hA;rw[ha] at hs1;have h0q:0<q.length:=by have:=HN.out;omega
  obtain ⟨x',y,hxy⟩:=three_of h0q (by rw[<-HX1.out.2.1];exact ha) HN.out;obtain rfl:x'=x:=by have:=HX1.out.1;rw[this];simp[hxy]
  have HB:Hid (lineS s.data.toList=lnS (schS x' y)):=Lib.hid (by rw[HL.out,hxy,words3];rfl);have cy:w3.cell? ⟨b,2,none⟩=some (.string ⟨y.toArray⟩):=by have:=hcs.out 2 (by rw[hxy];simp);simpa [hxy] using this
  have hyl:(y.length:Int)<=300:=HQP.out y (by rw[hxy];simp);have HRT:=Lib.hid (ref_RetentionsF ⟨y.toArray⟩ (by show ((y.toArray.size:Nat):Int)<=300;rw[List.size_toArray];omega) w3);obtain ⟨er,her⟩:∃er:Int,er=if (retS y).isSome then 0 else 15:=⟨_,rfl⟩
  obtain ⟨ar,har⟩:∃ar,ar=retS y:=⟨_,rfl⟩
  have HRT:Hid (Calls Tryz.prog 41 #[.string ⟨y.toArray⟩] w3 λe w'=>∃A c,e= .returned (.tuple #[.slice A (ar.getD []).length c, .int .i64 er])/\Ra w' A (ar.getD [])/\Gr w3 w'/\∀ad,A=some ad->w3.heap.size<=ad.block):=Lib.hid (by rw[har,her];exact HRT.out);have HER:=Lib.hid (And.intro har her);obtain ⟨i0,hi0,hz0,hz1,hz2⟩:=info_parts info_qs;have hR3:R<w3.heap.size:=Nat.lt_of_lt_of_le h3.out.lt h3.out.sz;have hbv1:Hid (w3.heap.size<=w3.heap.size):=Lib.hid (Nat.le_refl _);have hbo:b≠R:=by omega
  have hbn:Hid (v1.ownBlock≠some b):=Lib.hid λe=>by have:=(Hh.out.o1.lt b e).2;omega
  clear har her hxy ha hr1 hcs;go_upto_region 9 with (go_at_call 41;refine HRT.out.mono ?_;rintro e w4 ⟨Ar,ca,rfl,hra,g4,hf4⟩)
  obtain ⟨V,hV⟩:∃V,V=w4.drew:=⟨_,rfl⟩
  have gV:Gr w3 V:=by rw[hV];exact g4.drew
  have hS0:SqS R 0 b v1 X (λ_=>True) V:=⟨(bc gV hR3 h3.out.x1),(bf gV hR3 h3.out.f1),(bc gV hb3 c1),trivial,Nat.lt_of_lt_of_le hR3 gV.size,Nat.lt_of_lt_of_le hb3 gV.size⟩
  have HX:Hid (∀W',Gr V W'->True):=Lib.hid λ_ _=>trivial;have HX9:Hid (∀W',World.grownBy (V.alloc (.cells #[.string X, .slice Ar (ar.getD []).length ca] 48)) W' v1.ownBlock->True):=Lib.hid λ_ _=>trivial;have ownV:=own_grU h3.out.o1 gV;have hvl:=Hh.out.o1.lt;have hRB:=Hh.out.lt;have hBz:B0<=w3.heap.size:=h3.out.sz;have Hok:Hid (Ra V Ar (ar.getD [])/\∀ad,Ar=some ad->w3.heap.size<=ad.block):=Lib.hid ⟨by rw[hV];exact Ra.gr hra (Gr.drew (Gr.refl w4)),hf4⟩;refine wp_region_Z 14 (SqS R 0 b v1 X (λ_=>True)) (by kernel_rfl) ?_;rw[<-hV];clear hra hf4 g4 hV c0 c1 cy;refine zu 0 hS0 ?_;refine zu 1 hS0 ?_;refine zu 2 hS0 ?_;refine zu 3 hS0 ?_;refine zu 4 hS0 ?_ (hy:=λW hS=>by obtain ⟨k0,k1,k2,k3,k4,k5⟩:=hS;go_simp<;>rfl);refine zu 5 hS0 ?_;refine zu 6 hS0 ?_;refine zu 7 hS0 ?_ (hy:=λW hS=>by obtain ⟨k0,k1,k2,k3,k4,k5⟩:=hS;go_simp<;>rfl);refine zu 8 hS0 ?_;refine zu 9 hS0 ?_;refine zs 10 rfl (λK hK=>?_);have hS7:=hS0.kept (Nat.le_of_lt (by simp:V.heap.size<(V.alloc (.cells #[.string X, .slice Ar (ar.getD []).length ca] 48)).heap.size)) (Below.block (Gr.alloc (Gr.refl V) (.cells #[.string X, .slice Ar (ar.getD []).length ca] 48)) R hS0.2.2.2.2.1) (Below.block (Gr.alloc (Gr.refl V) (.cells #[.string X, .slice Ar (ar.getD []).length ca] 48)) b hS0.2.2.2.2.2) (HX.out _ (Gr.alloc (Gr.refl V) (.cells #[.string X, .slice Ar (ar.getD []).length ca] 48)));have own7:=ownV.alloc (.cells #[.string X, .slice Ar (ar.getD []).length ca] 48);have hrx:Rd (V.alloc (.cells #[.string X, .slice Ar (ar.getD []).length ca] 48)) 2 (some ⟨V.heap.size,0,none⟩) 1 ([.string X, .slice Ar (ar.getD []).length ca]:List Value):=Rd.newU (W:=V) rfl 48 [.string X, .slice Ar (ar.getD []).length ca] rfl;go_simp;refine hK.out _ _ (λhnz=>?s11) (λ_=>?r11);case s11=>exact hS7
  clear hK K;try simp only[Pu,Gl]
  refine zs 11 rfl (λK hK=>?_);refine wp_append_rdX (.tmp 55) (.tmp 61) 41 rfl B0 48 i0 _ 2 40 Tryz.underlying41 hi0 hz0 hz1 hz2 rfl (by decide) _ l.length _ rfl own7 ⟨V.heap.size,0,none⟩ 1 _ ([.string X, .slice Ar (ar.getD []).length ca]:List Value) rfl hrx (by decide) (by simp[Value.oneCell']) (by unfold maxLen;omega) (by omega) (by have:=gV.size;simp;omega) ?_;intro v' w9 own9 hgr9 hob9;obtain ⟨A9,c9,hv9⟩:=own_form own9;subst hv9;have Hg9:=Lib.hid (And.intro own9 (And.intro hgr9 hob9));have hS9:=hS7.kept hgr9.size (hgr9.block R hS7.2.2.2.2.1 (λe=>by have:=(hvl R e.symm).1;omega)) (hgr9.block b hS7.2.2.2.2.2 (λe=>by have:=(hvl b e.symm).2;omega)) (HX9.out _ hgr9);clear own9 hgr9 hob9 hS7 own7 hrx;refine hK.out _ _ (λhnz=>?s12) (λ_=>?r12);case s12=>exact hS9
  clear hK K;try simp only[Pu,Gl]
  refine zs 12 rfl (λK hK=>?_);go_wp2_with fail;refine hK.out _ _ (λhnz=>?s13) (λ_=>?r13);case s13=>exact hS9
  clear hK K;try simp only[Pu,Gl]
  refine zs 13 rfl (λK hK=>?_);go_wp2_with fail;refine hK.out _ _ (λhnz=>?s14) (λ_=>?r14);case s14=>exact hS9
  clear hK K;try simp only[Pu,Gl]
  refine zs 14 rfl (λK hK=>?_);obtain ⟨s0,s1, -, -,hzR, -⟩:=id hS9;go_wp2_with fail;refine hK.out _ _ (λhnz=>?s15) (λ_=>?r15);case s15=>exact absurd rfl hnz
  clear hK K;try simp only[Pu,Gl]
  refine wpAnyZ_done (by kernel_rfl) ?_ _;clear s1;go_wp2;go_ret;obtain ⟨own9,hgr9,hob9⟩:=Hg9.out;have gVV:Gr w3 (V.alloc (.cells #[.string X, .slice Ar (ar.getD []).length ca] 48)):=gV.alloc _;obtain ⟨f1,f2⟩:=RqM.pushS h3.out gVV ⟨X,ar.getD [],Ar,ca⟩ own9 hgr9 hob9 ((Hok.out.1).gr (Gr.alloc (Gr.refl V) _)) Hok.out.2;have hk3:∀k,k<B0->w3.heap[k]?=wr.heap[k]?:=λk hk=>Below.block G03.out k (Nat.lt_of_lt_of_le hk Hh.out.sz);cases hr:ar with
  | none=>
   have e1:er=15:=by rw[HER.out.2,<-HER.out.1,hr];rfl
   exact LnQ.bad' (by rw[HB.out];unfold schS;rw[<-HER.out.1,hr];cases patB x'<;>rfl) (by rw[e1];rfl) f1.gr
  | some l0=>
   have e1:er=0:=by rw[HER.out.2,<-HER.out.1,hr];rfl
   rw[hr] at f1;rw[HB.out,show schS x' y=some ⟨x',l0⟩ by unfold schS;rw[hp.out,<-HER.out.1,hr];rfl];exact ⟨by rw[e1];rfl,⟨X,l0,Ar,ca⟩,_,by rw[HXX.out];rfl,f1,λk hk hne=>(f2 k hk hne).trans (hk3 k hk)⟩
 by_cases hR:(a==wRul)=true/\n'=4
 ·obtain ⟨ha,rfl⟩:=hR;have hf:(a==wSch)=false:=by
   have:a=wRul:=by simpa using ha
   rw[this];rfl
  rw[ha] at hr1;rw[hf] at hs1;have h0q:0<q.length:=by have:=HN.out;omega
  obtain ⟨x',y,z,hxy⟩:=four_of h0q (by rw[<-HX1.out.2.1];exact ha) HN.out;obtain rfl:x'=x:=by have:=HX1.out.1;rw[this];simp[hxy]
  have HB:Hid (lineS s.data.toList=lnR (rulS x' y z)):=Lib.hid (by rw[HL.out,hxy,words4];rfl);have cy:w3.cell? ⟨b,2,none⟩=some (.string ⟨y.toArray⟩):=by have:=hcs.out 2 (by rw[hxy];simp);simpa [hxy] using this
  have cz:w3.cell? ⟨b,3,none⟩=some (.string ⟨z.toArray⟩):=by have:=hcs.out 3 (by rw[hxy];simp);simpa [hxy] using this
  have hzl:(z.length:Int)<=300:=HQP.out z (by rw[hxy];simp);have hzs:(((⟨z.toArray⟩:ByteArray).size:Nat):Int)<=4000:=by show ((z.toArray.size:Nat):Int)<=4000;rw[List.size_toArray];omega
  obtain ⟨ok,xn,HDC,HDV⟩:∃(ok:Bool) (xn:Int),Hid (∀w,Calls Tryz.prog 42 #[.string ⟨z.toArray⟩] w λe w'=>e= .returned (.tuple #[.agg #[.bool ok, .int .i64 xn], .bool ok])/\Gr w w')/\Hid (decV z=if ok=true then some xn else none):=by
   cases hd:decV z with
   | none=>exact ⟨false,0,Lib.hid λw=>(rdparse_any ⟨z.toArray⟩ hzs w).mono λe w' h=>(by rw[show decV (⟨z.toArray⟩:ByteArray).data.toList=none from hd] at h;exact h),Lib.hid rfl⟩
   | some n=>exact ⟨true,n,Lib.hid λw=>(rdparse_any ⟨z.toArray⟩ hzs w).mono λe w' h=>(by rw[show decV (⟨z.toArray⟩:ByteArray).data.toList=some n from hd] at h;exact h),Lib.hid rfl⟩
  obtain ⟨kd,hkd⟩:∃kd,kd=kindI ⟨y.toArray⟩:=⟨_,rfl⟩
  have HKD:=Lib.hid (λw=>rkind_any ⟨y.toArray⟩ w);rw[<-hkd] at HKD;have HR:Hid (rulS x' y z=bif kd != 0 then (xffS z).map (RR.mk x' kd) else none):=Lib.hid (by unfold rulS;rw[hp.out,<-hkd];rfl);obtain ⟨i0,hi0,hz0,hz1,hz2⟩:=info_parts info_qr;have hR3:R<w3.heap.size:=Nat.lt_of_lt_of_le h3.out.lt h3.out.sz;clear hxy ha hf hcs hkd hA;go_upto_region 13 with (go_at_call 42;refine (HDC.out _).mono ?_;rintro e w4 ⟨rfl,g4⟩)
  obtain ⟨bv,hbv⟩:∃bv,bv=w4.heap.size:=⟨_,rfl⟩
  obtain ⟨w5,hw5⟩:∃w5,w5=w4.alloc (.cells #[.bool ok, .int .i64 xn] 104):=⟨_,rfl⟩
  have g5:Gr w3 w5:=by rw[hw5];exact g4.alloc _
  have e0:w5.cell? ⟨bv,0,none⟩=some (.bool ok):=by rw[hw5,hbv];go_simp
  have e1:w5.cell? ⟨bv,1,none⟩=some (.int .i64 xn):=by rw[hw5,hbv];go_simp
  have hbv5:bv<w5.heap.size:=by rw[hw5,hbv];simp
  have hbvw:w3.heap.size<=bv:=by rw[hbv];exact g4.size
  replace c1:=bc g5 hb3 c1;replace cy:=bc g5 hb3 cy;have hb5:b<w5.heap.size:=Nat.lt_of_lt_of_le hb3 g5.size;rw[<-hw5,<-hbv];clear hw5 hbv g4 c0 cz;go_upto_region 14 with (go_at_call 43;refine (HKD.out _).mono ?_;rintro e w6 ⟨rfl,rfl⟩)
  obtain ⟨V,hV⟩:∃V,V=w5.drew:=⟨_,rfl⟩
  have gV:Gr w3 V:=by rw[hV];exact g5.drew
  have g5V:Gr w5 V:=by rw[hV];exact Gr.drew (Gr.refl _)
  have hY0:V.cell? ⟨bv,0,none⟩=some (.bool ok):=bc g5V hbv5 e0;have hY:V.cell? ⟨bv,1,none⟩=some (.int .i64 xn)/\bv<V.heap.size:=⟨(bc g5V hbv5 e1),Nat.lt_of_lt_of_le hbv5 g5V.size⟩
  have hS0:SqS R 1 b v2 X (λW=>W.cell? ⟨bv,1,none⟩=some (.int .i64 xn)/\bv<W.heap.size) V:=⟨(bc gV hR3 h3.out.x2),(bf gV hR3 h3.out.f2),(bc g5V hb5 c1),hY,Nat.lt_of_lt_of_le hR3 gV.size,Nat.lt_of_lt_of_le hb5 g5V.size⟩
  have hvl:=Hh.out.o2.lt;have hwr3:=G03.out.size;have HX:Hid (∀W',Gr V W'->W'.cell? ⟨bv,1,none⟩=some (.int .i64 xn)/\bv<W'.heap.size):=Lib.hid λW' g=>⟨(bc g hY.2 hY.1),Nat.lt_of_lt_of_le hY.2 g.size⟩
  have HB9:Hid (∀W',World.grownBy (V.alloc (.cells #[.string X, .int .i64 kd, .int .i64 xn] 51)) W' v2.ownBlock->W'.heap[bv]?=V.heap[bv]?/\bv<W'.heap.size):=Lib.hid λW' g=>by
   have hl:bv<(V.alloc (.cells #[.string X, .int .i64 kd, .int .i64 xn] 51)).heap.size:=Nat.lt_of_lt_of_le hY.2 (Gr.alloc (Gr.refl V) (.cells #[.string X, .int .i64 kd, .int .i64 xn] 51)).size;exact ⟨(g.block bv hl (λe=>by have:=(hvl bv e.symm).2;omega)).trans (Below.block (Gr.alloc (Gr.refl V) (.cells #[.string X, .int .i64 kd, .int .i64 xn] 51)) bv hY.2),Nat.lt_of_lt_of_le hl g.size⟩
  have HX9:Hid (∀W',World.grownBy (V.alloc (.cells #[.string X, .int .i64 kd, .int .i64 xn] 51)) W' v2.ownBlock->W'.cell? ⟨bv,1,none⟩=some (.int .i64 xn)/\bv<W'.heap.size):=Lib.hid λW' g=>⟨(World.cell?_of_block (a:=⟨bv,1,none⟩) (HB9.out W' g).1).trans hY.1,(HB9.out W' g).2⟩
  have ownV:=own_grU h3.out.o2 gV;have hRB:=Hh.out.lt;have hBz:B0<=w3.heap.size:=h3.out.sz;refine wp_region_Z 16 (SqS R 1 b v2 X (λW=>W.cell? ⟨bv,1,none⟩=some (.int .i64 xn)/\bv<W.heap.size)) (by kernel_rfl) ?_;rw[<-hV];have HY0:=Lib.hid (And.intro hY0 hY);clear g5 g5V hV c1 cy e0 e1 hbv5 hb5 hY0 hY;refine zu 0 hS0 ?_;refine zu 1 hS0 ?_;refine zu 2 hS0 ?_;refine zu 3 hS0 ?_;refine zu 4 hS0 ?_ (hy:=λW hS=>by obtain ⟨k0,k1,k2,k3,k4,k5⟩:=hS;go_simp<;>rfl);refine zu 5 hS0 ?_;refine zu 6 hS0 ?_;refine zu 7 hS0 ?_ (hy:=λW hS=>by obtain ⟨k0,k1,k2,k3,k4,k5⟩:=hS;go_simp<;>rfl);refine zu 8 hS0 ?_;refine zu 9 hS0 ?_;refine zu 10 hS0 ?_ (hy:=λW hS=>by obtain ⟨k0,k1,k2,k3,k4,k5⟩:=hS;go_simp<;>rfl);refine zu 11 hS0 ?_;refine zs 12 rfl (λK hK=>?_);have hS7:=hS0.kept (Nat.le_of_lt (by simp:V.heap.size<(V.alloc (.cells #[.string X, .int .i64 kd, .int .i64 xn] 51)).heap.size)) (Below.block (Gr.alloc (Gr.refl V) (.cells #[.string X, .int .i64 kd, .int .i64 xn] 51)) R hS0.2.2.2.2.1) (Below.block (Gr.alloc (Gr.refl V) (.cells #[.string X, .int .i64 kd, .int .i64 xn] 51)) b hS0.2.2.2.2.2) (HX.out _ (Gr.alloc (Gr.refl V) (.cells #[.string X, .int .i64 kd, .int .i64 xn] 51)));have own7:=ownV.alloc (.cells #[.string X, .int .i64 kd, .int .i64 xn] 51);have hrx:Rd (V.alloc (.cells #[.string X, .int .i64 kd, .int .i64 xn] 51)) 3 (some ⟨V.heap.size,0,none⟩) 1 ([.string X, .int .i64 kd, .int .i64 xn]:List Value):=Rd.newU (W:=V) rfl 51 [.string X, .int .i64 kd, .int .i64 xn] rfl;go_simp;refine hK.out _ _ (λhnz=>?s28) (λ_=>?r28);case s28=>exact hS7
  clear hK K;try simp only[Pu,Gl]
  refine zs 13 rfl (λK hK=>?_);refine wp_append_rdX (.tmp 92) (.tmp 100) 43 rfl B0 51 i0 _ 3 32 Tryz.underlying43 hi0 hz0 hz1 hz2 rfl (by decide) _ m.length _ rfl own7 ⟨V.heap.size,0,none⟩ 1 _ ([.string X, .int .i64 kd, .int .i64 xn]:List Value) rfl hrx (by decide) (by simp[Value.oneCell']) (by unfold maxLen;omega) (by omega) (by have:=gV.size;simp;omega) ?_;intro v' w9 own9 hgr9 hob9;obtain ⟨A9,c9,hv9⟩:=own_form own9;subst hv9;have Hg9:=Lib.hid (And.intro own9 (And.intro hgr9 hob9));have hS9:=hS7.kept hgr9.size (hgr9.block R hS7.2.2.2.2.1 (λe=>by have:=(hvl R e.symm).1;omega)) (hgr9.block b hS7.2.2.2.2.2 (λe=>by have:=(hvl b e.symm).2;omega)) (HX9.out _ hgr9);clear own9 hgr9 hob9 hS7 own7 hrx;refine hK.out _ _ (λhnz=>?s29) (λ_=>?r29);case s29=>exact hS9
  clear hK K;try simp only[Pu,Gl]
  refine zs 14 rfl (λK hK=>?_);go_wp2_with fail;refine hK.out _ _ (λhnz=>?s30) (λ_=>?r30);case s30=>exact hS9
  clear hK K;try simp only[Pu,Gl]
  refine zs 15 rfl (λK hK=>?_);go_wp2_with fail;refine hK.out _ _ (λhnz=>?s31) (λ_=>?r31);case s31=>exact hS9
  clear hK K;try simp only[Pu,Gl]
  refine zs 16 rfl (λK hK=>?_);obtain ⟨s0,s1, -, -,hzR, -⟩:=id hS9;go_wp2_with fail;refine hK.out _ _ (λhnz=>?s32) (λ_=>?r32);case s32=>exact absurd rfl hnz
  clear hK K;try simp only[Pu,Gl]
  refine wpAnyZ_done (by kernel_rfl) ?_ _;clear s1;have hgb:=HB9.out _ Hg9.out.2.1;have hbR:bv≠R:=by omega
  obtain ⟨W4,hW4⟩:∃W4,W4=w9.setCell ⟨R,1,none⟩ (.slice A9 (m.length+1) c9):=⟨_,rfl⟩
  have c0:W4.cell? ⟨bv,0,none⟩=some (.bool ok):=by
   rw[hW4,World.cell?_setCell_other _ _ _ _ (by first|(simp;done)|(simp;omega))];exact (World.cell?_of_block (a:=⟨bv,0,none⟩) hgb.1).trans HY0.out.1
  have c1:W4.cell? ⟨bv,1,none⟩=some (.int .i64 xn):=by
   rw[hW4,World.cell?_setCell_other _ _ _ _ (by first|(simp;done)|(simp;omega))];exact (World.cell?_of_block (a:=⟨bv,1,none⟩) hgb.1).trans HY0.out.2.1
  have hbv:bv<W4.heap.size:=by rw[hW4];simp;exact hgb.2
  obtain ⟨v',HF⟩:∃v',Hid (RqM w R B0 W4 l (m++[⟨X,kd,xn⟩]) v1 v'/\∀k,k<B0->k≠R->W4.heap[k]?=wr.heap[k]?):=by
   obtain ⟨own9,hgr9,hob9⟩:=Hg9.out;obtain ⟨f1,f2⟩:=RqM.pushR h3.out (gV.alloc (.cells #[.string X, .int .i64 kd, .int .i64 xn] 51)) ⟨X,kd,xn⟩ own9 hgr9 hob9;rw[<-hW4] at f1 f2;exact ⟨_,Lib.hid ⟨f1,λk hk hne=>(f2 k hk hne).trans (Below.block G03.out k (Nat.lt_of_lt_of_le hk Hh.out.sz))⟩⟩
  have hgr:Hid (Gr w W4):=Lib.hid HF.out.1.gr;rw[<-hW4];clear hW4 hgb Hg9 hvl hwr3 hS0 hS9 gV s0 hzR;go_upto_region 15 with (fail)
  cases ok
  ·have HB2:Hid (lnR (rulS x' y z)= .bad):=Lib.hid (by rw[HR.out];unfold xffS;rw[HDV.out];cases (kd != 0)<;>rfl);refine region_R (by kernel_rfl) (by kernel_rfl) ?_;(iterate 2 refine rv ?_);(iterate 2 refine rs ?_);(iterate 2 refine rv ?_);(iterate 3 refine rs ?_);(iterate 2 refine rv ?_);(iterate 4 refine rs ?_);(iterate 2 refine rv ?_);refine r_nil ?_;intro w8 hw8;go_wp2;go_ret;exact LnQ.bad' (HB.out.trans HB2.out) rfl (hgr.out.trans hw8)
  have hd:decV z=some xn:=HDV.out;by_cases hk0:kd=0
  ·subst hk0;have HB2:Hid (lnR (rulS x' y z)= .bad):=Lib.hid (by rw[HR.out];rfl);clear hd;refine region_R (by kernel_rfl) (by kernel_rfl) ?_;(iterate 6 refine rv ?_);(iterate 3 refine rs ?_);(iterate 2 refine rv ?_);(iterate 4 refine rs ?_);(iterate 2 refine rv ?_);refine r_nil ?_;intro w8 hw8;go_wp2;go_ret;exact LnQ.bad' (HB.out.trans HB2.out) rfl (hgr.out.trans hw8)
  have hkb:(kd==0)=false:=beq_eq_false_iff_ne.2 hk0;have hkn:(kd != 0)=true:=by unfold bne;rw[hkb];rfl
  have HR2:Hid (rulS x' y z=(bif decide (0<=xn)&&decide (xn<=1000000) then some xn else none).map (RR.mk x' kd)):=Lib.hid (by rw[HR.out,hkn,cond_true];unfold xffS;rw[hd]);have hle:=decV_le hd;clear hd hk0 HR;by_cases h0:0<=xn;rotate_left
  ·have HB2:Hid (lnR (rulS x' y z)= .bad):=Lib.hid (by rw[HR2.out,decide_eq_false h0];rfl);refine region_R (by kernel_rfl) (by kernel_rfl) ?_;(iterate 7 refine rv ?_);refine rv ?_ (h:=λW hW=>by have c1:=bc hW hbv c1;go_light;go_simp<;>rfl);(iterate 3 refine rv ?_);(iterate 4 refine rs ?_);(iterate 2 refine rv ?_);refine r_nil ?_;intro w8 hw8;go_wp2;go_ret;exact LnQ.bad' (HB.out.trans HB2.out) rfl (hgr.out.trans hw8)
  have HLS:=Lib.hid (less_one hle.1 hle.2);clear hle;refine region_R (by kernel_rfl) (by kernel_rfl) ?_;(iterate 7 refine rv ?_);refine rv ?_ (h:=λW hW=>by have c1:=bc hW hbv c1;go_light;go_simp<;>rfl);(iterate 3 refine rv ?_);refine rc (.agg #[.bool (intV 1).ok, .int .i64 (intV 1).n]) (λW hW=>rint_any 1 W) ?_;refine rv ?_ (h:=λW hW=>by have c0:=bc hW hbv c0;have c1:=bc hW hbv c1;go_light;go_simp<;>rfl);refine rc (.bool (lessB (intV 1) ⟨true,xn⟩)) (λW hW=>rless_any (intV 1) ⟨true,xn⟩ W) ?_;(iterate 3 refine rv ?_);refine r_nil ?_;intro w8 hw8;go_wp2;go_ret;by_cases h1:xn<=1000000
  ·rw[HB.out,HR2.out,decide_eq_true h0,decide_eq_true h1];exact ⟨by rw[HLS.out,decide_eq_false (by omega)];rfl,⟨X,kd,xn⟩,v',by rw[HXX.out];rfl,Two.gr' HF.out.1 hw8,λk hk hne=>(Below.block hw8 k (Nat.lt_of_lt_of_le hk HF.out.1.sz)).trans (HF.out.2 k hk hne)⟩
  ·exact LnQ.bad' (by rw[HB.out,HR2.out,decide_eq_true h0,decide_eq_false h1];rfl) (by rw[HLS.out,decide_eq_true (by omega)];rfl) (hgr.out.trans hw8)
 have HB:Hid (lineS s.data.toList= .bad):=Lib.hid (by
  rw[HL.out];refine words_no (λa' x y e=>?_) (λa' x y z e=>?_)
  ·cases hc:(a'==wSch)
   ·rfl
   ·exact absurd ⟨by rw[HX1.out.2.1];simp only[e,List.getElem_cons_zero];exact hc,by rw[HN.out,e];rfl⟩ hA
  ·cases hc:(a'==wRul)
   ·rfl
   ·exact absurd ⟨by rw[HX1.out.2.1];simp only[e,List.getElem_cons_zero];exact hc,by rw[HN.out,e];rfl⟩ hR)
 have h3':(a==wSch)=true->((n':Int)==3)=false:=λh=>beq_eq_false_iff_ne.2 λe=>hA ⟨h,by omega⟩;have h4':(a==wRul)=true->((n':Int)==4)=false:=λh=>beq_eq_false_iff_ne.2 λe=>hR ⟨h,by omega⟩;generalize (a==wSch)=bs at hs1 h3';generalize (a==wRul)=br at hr1 h4';have H3:=Lib.hid h3';have H4:=Lib.hid h4';clear hA hR h3' h4';cases bs<;>cases br
 ·go_wp2;go_ret;exact LnQ.bad' HB.out rfl G3.out
 ·have k4:=H4.out rfl;go_wp2;go_ret;exact LnQ.bad' HB.out rfl G3.out
 ·have k3:=H3.out rfl;go_wp2;go_ret;exact LnQ.bad' HB.out rfl G3.out
 ·have k3:=H3.out rfl;have k4:=H4.out rfl;go_wp2;go_ret;exact LnQ.bad' HB.out rfl G3.out
def Mq (l:List Qs) (m:List Qr) (st:St):Prop:=l.map Qs.p=st.S/\m.map Qr.p=st.R
def RetPq (w:World) (x:Option St) (e:Ending) (w':World):Prop:=match x with
 | none=>e= .returned (.tuple #[.pointer none, .int .i64 15])/\Gr w w'
 | some st=>∃R B0 l m v1 v2,e= .returned (.tuple #[.pointer (some ⟨R,0,none⟩), .int .i64 0])/\RqM w R B0 w' l m v1 v2/\Mq l m st
theorem RetPq.no {w w':World} {x:Option St} (h:x=none) (g:Gr w w'):RetPq w x (.returned (.tuple #[.pointer none, .int .i64 15])) w':=by subst h;exact ⟨rfl,g⟩
theorem RetPq.yes {w w':World} {x:Option St} {R B0:Nat} {l:List Qs} {m:List Qr} {v1 v2:Value} {st:St} (h:x=some st) (hR:RqM w R B0 w' l m v1 v2) (hm:Mq l m st):RetPq w x (.returned (.tuple #[.pointer (some ⟨R,0,none⟩), .int .i64 0])) w':=by subst h;exact ⟨R,B0,l,m,v1,v2,rfl,hR,hm⟩
theorem LnQ.good {w:World} {R B0:Nat} {wr:World} {l:List Qs} {m:List Qr} {v1 v2:Value} {a:Ln} {e:Ending} {w':World} (h:LnQ w R B0 wr l m v1 v2 a e w') {st st':St} (hm:Mq l m st) (ha:addS st a=some st'):e= .returned (.bool true)/\∃l' m' v1' v2',RqM w R B0 w' l' m' v1' v2'/\Mq l' m' st'/\∀k,k<B0->k≠R->w'.heap[k]?=wr.heap[k]?:=by
 cases a with
 | bad=>cases ha
 | s v=>
  injection ha with ha;obtain ⟨e1,s,v',rfl,hR,hk⟩:=h;subst ha;exact ⟨e1,l++[s],m,v',v2,hR,⟨by rw[List.map_append,hm.1];rfl,hm.2⟩,hk⟩
 | r v=>
  injection ha with ha;obtain ⟨e1,s,v',rfl,hR,hk⟩:=h;subst ha;exact ⟨e1,l,m++[s],v1,v',hR,⟨hm.1,by rw[List.map_append,hm.2];rfl⟩,hk⟩
theorem LnQ.none {w:World} {R B0:Nat} {wr:World} {l:List Qs} {m:List Qr} {v1 v2:Value} {a:Ln} {e:Ending} {w':World} (h:LnQ w R B0 wr l m v1 v2 a e w') {st:St} (ha:addS st a=Option.none):e= .returned (.bool false)/\Gr w w':=by
 cases a with
 | bad=>exact h
 | s v=>cases ha
 | r v=>cases ha
theorem run_take {q:List (List UInt8)} {k:Nat} (hk:k<q.length) (st:St):runS (q.take (k+1)) st=match runS (q.take k) st with
  | none=>none
  | some s=>bif skipS q[k] then some s else addS s (lineS q[k]):=by
 rw[List.take_add_one,List.getElem?_eq_getElem hk];exact run_snoc _ _ _
theorem rparse_any (t:ByteArray) (ht:(t.size:Int)<=300) (w:World):Calls Tryz.prog 11 #[.string t] w (RetPq w (parseS t.data.toList)):=by
 obtain ⟨q,hq⟩:∃q,q=partS 10 t.data.toList:=⟨_,rfl⟩
 have HP:Hid (parseS t.data.toList=runS q ⟨[],[]⟩):=Lib.hid (by rw[hq];rfl);have htl:t.data.toList.length=t.size:=by simp
 have HQL:Hid (∀p∈q,(p.length:Int)<=300):=Lib.hid λp hp=>by
  have:=(partS_mem 10 t.data.toList p (hq▸hp)).1;omega
 have HSM:Hid (sumL q<=301):=Lib.hid (by rw[hq,part_sum];omega);have hql:(q.length:Int)<=301:=by
  have:=partS_len 10 t.data.toList;rw[<-hq] at this;omega
 obtain ⟨w0,hw0⟩:∃w0,w0=w.alloc (.cells #[.slice none 0 0, .slice none 0 0] 46):=⟨_,rfl⟩
 have g0:Gr w w0:=by rw[hw0];exact Gr.alloc (Gr.refl w) _
 obtain ⟨x1,x2,f1,f2⟩:w0.cell? ⟨w.heap.size,0,none⟩=some (.slice none 0 0)/\w0.cell? ⟨w.heap.size,1,none⟩=some (.slice none 0 0)/\w0.frozen? ⟨w.heap.size,0,none⟩=false/\w0.frozen? ⟨w.heap.size,1,none⟩=false:=by
  rw[hw0];refine ⟨?_,?_,?_,?_⟩<;>go_simp
 have hz0:w.heap.size<w0.heap.size:=by rw[hw0];simp
 have HSP:=Lib.hid (ref_split t (by omega) 10 w0);rw[<-hq] at HSP;have HW:=Lib.hid hw0;clear hq htl hw0;go_enter Tryz.func11,Tryz.ntmps11;go_upto_region 2 with (fail)
 rw[<-HW.out];go_upto_region 3 with (go_at_call 27;refine HSP.out.mono ?_;rintro e w1 ⟨b,cp,rfl,hb0,hb,hS,g1⟩)
 obtain ⟨R,hR⟩:∃R,R=w.heap.size:=⟨_,rfl⟩
 rw[<-hR] at x1 x2 f1 f2 hz0 ⊢;obtain ⟨B0,hB0⟩:∃B0,B0=w1.heap.size:=⟨_,rfl⟩
 have hI:RqM w R B0 w1 [] [] (.slice none 0 0) (.slice none 0 0):=Two.nil (g0.trans g1) (by omega) (by have:=g1.size;omega) (by omega) ((bc g1 hz0 x1)) ((bc g1 hz0 x2)) ((bf g1 hz0 f1)) ((bf g1 hz0 f2)) (λW s hs=>by cases hs);have hbR:b≠R:=by omega
 have hbB:b<B0:=by omega
 have HI:=Lib.hid (And.intro hI hS);have HBR:=Lib.hid (And.intro hbR hbB);clear x1 x2 f1 f2 hz0 g0 g1 hI hS hb hb0 hR hB0 HW HSP hbR hbB;obtain ⟨n,hn⟩:∃n,n=q.length:=⟨_,rfl⟩
 rw[<-hn] at hql ⊢;have HN:=Lib.hid hn;clear hn;go_wp2
 go_loopw [6] (λi wr=>∃(k:Nat) (l:List Qs) (m:List Qr) (v1 v2:Value) (st:St),k<=n/\i= .int .i64 k/\Hid (runS (q.take k) ⟨[],[]⟩=some st/\Mq l m st/\RqM w R B0 wr l m v1 v2/\Strs wr b q)) (λi _=>n-(intOf i).toNat)
 case atStart=>exact ⟨0,[],[],_,_,⟨[],[]⟩,Nat.zero_le _,rfl,Lib.hid ⟨rfl,⟨rfl,rfl⟩,HI.out.1,HI.out.2⟩⟩
 case round=>
  obtain ⟨k,l,m,v1,v2,st,hk,rfl,HG⟩:=hrel;by_cases hlt:k<n
  ·have hlt':(k:Int)<(n:Int):=by omega
   have hkq:k<q.length:=by rw[<-HN.out];exact hlt
   obtain ⟨p,hp⟩:∃p,p=q[k]:=⟨_,rfl⟩
   obtain ⟨T,hT⟩:∃T:ByteArray,T=⟨p.toArray⟩:=⟨_,rfl⟩
   have hTl:T.data.toList=p:=by rw[hT]
   have hc:wr.cell? ⟨b,k,none⟩=some (.string T):=by rw[hT,hp];exact HG.out.2.2.2 k hkq
   have hb:b<wr.heap.size:=Nat.lt_of_lt_of_le HBR.out.2 HG.out.2.2.1.sz;have hrun:=run_take hkq ⟨[],[]⟩;rw[HG.out.1,<-hp] at hrun;have hTs:(T.size:Int)<=300:=by
    have h1:=HQL.out p (by rw[hp];exact List.getElem_mem _);have h2:T.data.toList.length=T.size:=by simp
    rw[hTl] at h2;omega
   have HK:=Lib.hid hkq;clear hp hT hkq;cases hsk:skipS p;rotate_left
   ·have HX:Hid (runS (q.take (k+1)) ⟨[],[]⟩=some st):=Lib.hid (by rw[hrun,hsk];rfl);rw[<-hTl] at hsk;clear hrun hTl;rcases skip_yes hsk with rfl|⟨t0,t1,t2,t3⟩
    ·clear hsk;go_wp2;go_roundw;case rel=>exact ⟨k+1,l,m,v1,v2,st,by omega,by go_num,Lib.hid ⟨HX.out,HG.out.2⟩⟩
     case measure=>simp[intOf];omega
    ·clear hsk;go_wp2;go_roundw;case rel=>exact ⟨k+1,l,m,v1,v2,st,by omega,by go_num,Lib.hid ⟨HX.out,HG.out.2⟩⟩
     case measure=>simp[intOf];omega
   have hrun2:runS (q.take (k+1)) ⟨[],[]⟩=addS st (lineS T.data.toList):=by rw[hrun,hsk,hTl];rfl
   rw[<-hTl] at hsk;obtain ⟨t0,t1,t2,t3⟩:=skip_no hsk;have hle:l.length<=1000/\m.length<=1000:=by
    have h1:=run_len _ _ _ HG.out.1;have h2:l.length=st.S.length:=by rw[<-HG.out.2.1.1,List.length_map]
    have h3:m.length=st.R.length:=by rw[<-HG.out.2.1.2,List.length_map]
    have h4:=sum_pre (List.take_prefix k q);have h5:=HSM.out;simp only[List.length_nil,Nat.add_zero,Nat.mul_zero,Nat.zero_add] at h1;omega
   have HC:=Lib.hid (rline_any HG.out.2.2.1 T hTs hle.1 hle.2);have Hrun:=Lib.hid hrun2;clear hrun hrun2 hTl hsk hle hTs;cases ha:addS st (lineS T.data.toList) with
   | none=>
    have HX:Hid (parseS t.data.toList=none):=Lib.hid (by rw[HP.out];exact run_stop (Hrun.out.trans ha) (List.take_prefix _ _));have HC2:=Lib.hid (HC.out.mono λe w' h=>h.none ha);clear HC ha;go_wp2_with (go_at_call 28;refine HC2.out.mono ?_;rintro e w3 ⟨rfl,g3⟩;have G3:=Lib.hid g3;clear g3);go_ret2;exact RetPq.no HX.out G3.out
   | some st'=>
    have HX:=Lib.hid (Hrun.out.trans ha);have HC2:=Lib.hid (HC.out.mono λe w' h=>h.good HG.out.2.1 ha);clear HC ha;go_wp2_with (go_at_call 28;refine HC2.out.mono ?_;rintro e w3 ⟨rfl,l',m',v1',v2',hR3,hM3,hk3⟩;have H3:=Lib.hid (And.intro hR3 (And.intro hM3 hk3));clear hR3 hM3 hk3);go_roundw;case rel=>exact ⟨k+1,l',m',v1',v2',st',by omega,by go_num,Lib.hid ⟨HX.out,H3.out.2.1,H3.out.1,λj hj=>(World.cell?_of_block (a:=⟨b,j,none⟩) (H3.out.2.2 b HBR.out.2 HBR.out.1)).trans (HG.out.2.2.2 j hj)⟩⟩
    case measure=>simp[intOf];omega
  ·have hge:¬(k:Int)<(n:Int):=by omega
   have HX:Hid (parseS t.data.toList=some st):=Lib.hid (by
    have:=HG.out.1;rw[List.take_of_length_le (by rw[<-HN.out];omega)] at this;rw[HP.out,this])
   have hfew:=parse_few HX.out (by simp;omega);have h2:l.length=st.S.length:=by rw[<-HG.out.2.1.1,List.length_map]
   have h3:m.length=st.R.length:=by rw[<-HG.out.2.1.2,List.length_map]
   have hl:¬(64:Int)<(l.length:Int):=by omega
   have hm:¬(64:Int)<(m.length:Int):=by omega
   obtain ⟨A,c,hv⟩:=own_form HG.out.2.2.1.o1;obtain ⟨A2,c2,hv2⟩:=own_form HG.out.2.2.1.o2;subst hv hv2;have r1:=HG.out.2.2.1.x1;have r2:=HG.out.2.2.1.x2;have hRl:R<wr.heap.size:=Nat.lt_of_lt_of_le HG.out.2.2.1.lt HG.out.2.2.1.sz;clear hfew h2 h3;go_wp2;go_ret2;exact RetPq.yes HX.out HG.out.2.2.1 HG.out.2.1
theorem rin_any (p nm:ByteArray) (hp:p.size<=500) (hs:(nm.size:Int)<=4096) (w:World):Calls Tryz.prog 29 #[.string p, .string nm] w λe w'=>e= .returned (.bool (inP p.data.toList nm.data.toList))/\Gr w w':=by
 have HC:=Lib.hid (rcomp_any p hp w);have hz:=code_sizes (l:=p.data.toList) (by simpa using hp);have HI:Hid (∀A c W,Ri W A (codeY p.data.toList)->Calls Tryz.prog 46 #[.agg #[.int .i64 (grpX p.data.toList:Nat), .slice A (codeY p.data.toList).length c], .string nm] W λe w'=>e= .returned (.bool (inP p.data.toList nm.data.toList))/\Gr W w'):=Lib.hid λA c W hr=>rpis_any _ _ c A _ nm rfl hz.1 hz.2.1 hs hz.2.2 W hr;clear hz hp hs;generalize inP p.data.toList nm.data.toList=B at HI ⊢;have HC2:Hid (Calls Tryz.prog 40 #[.string p] w λe w'=>∃(G n:Nat) (E:Int) (A:Option Addr) (c:Nat),e= .returned (.tuple #[.agg #[.int .i64 G, .slice A n c], .int .i64 E])/\Hid (∀W,Gr w' W->Calls Tryz.prog 46 #[.agg #[.int .i64 G, .slice A n c], .string nm] W λe w'=>e= .returned (.bool B)/\Gr W w')/\Gr w w'):=Lib.hid (HC.out.mono λe w' hc=>(by
  obtain ⟨A,c,e1,hr,hg, -⟩:=hc;exact ⟨_,_,_,A,c,e1,Lib.hid λW g=>HI.out A c W (Rd.gr hr g),hg⟩))
 clear HC HI;go_enter Tryz.func29,Tryz.ntmps29;go_wp2_with (first|(go_at_call 40;refine HC2.out.mono ?_;rintro e w1 ⟨G,n,E,A,c,rfl,HS,g1⟩;have G1:=Lib.hid g1;clear g1)|(go_at_call 46;refine (HS.out _ (Gr.alloc (Gr.refl _) _)).mono ?_;rintro e w2 ⟨rfl,g2⟩;have G2:=Lib.hid g2;clear g2));go_ret;exact ⟨rfl,(G1.out.alloc _).trans G2.out⟩
structure HdQ (W:World) (a:Value) (V:World):Prop where
 gr:Gr W V
 sz:W.heap.size+2<=V.heap.size
 x0:V.cell? ⟨W.heap.size,0,none⟩=some (.int .i64 0)
 x1:V.cell? ⟨W.heap.size,1,none⟩=some (.int .i64 0)
 x2:V.cell? ⟨W.heap.size,2,none⟩=some (.slice none 0 0)
 y0:V.frozen? ⟨W.heap.size,0,none⟩=false
 y1:V.frozen? ⟨W.heap.size,1,none⟩=false
 y2:V.frozen? ⟨W.heap.size,2,none⟩=false
 z0:V.cell? ⟨W.heap.size+1,0,none⟩=some (.int .i64 1)
 z1:V.cell? ⟨W.heap.size+1,1,none⟩=some (.int .i64 500000)
 z2:V.cell? ⟨W.heap.size+1,2,none⟩=some a
 z3:V.frozen? ⟨W.heap.size+1,0,none⟩=false
 z4:V.frozen? ⟨W.heap.size+1,1,none⟩=false
 z5:V.frozen? ⟨W.heap.size+1,2,none⟩=false
theorem HdQ.up {W:World} {a:Value} {V V':World} (h:HdQ W a V) (g:Gr V V'):HdQ W a V':=by
 have hz:=h.sz;have c:∀b j,b<W.heap.size+2->V'.cell? ⟨b,j,none⟩=V.cell? ⟨b,j,none⟩:=λb j hb=>Below.cell g (p:=⟨b,j,none⟩) (by show b<_;omega);have f:∀b j,b<W.heap.size+2->V'.frozen? ⟨b,j,none⟩=V.frozen? ⟨b,j,none⟩:=λb j hb=>Below.frozen g (p:=⟨b,j,none⟩) (by show b<_;omega);exact ⟨h.gr.trans g,Nat.le_trans hz g.size,(c _ _ (by omega)).trans h.x0,(c _ _ (by omega)).trans h.x1,(c _ _ (by omega)).trans h.x2,(f _ _ (by omega)).trans h.y0,(f _ _ (by omega)).trans h.y1,(f _ _ (by omega)).trans h.y2,(c _ _ (by omega)).trans h.z0,(c _ _ (by omega)).trans h.z1,(c _ _ (by omega)).trans h.z2,(f _ _ (by omega)).trans h.z3,(f _ _ (by omega)).trans h.z4,(f _ _ (by omega)).trans h.z5⟩
theorem find_first {α:Type} {p:α->Bool}:∀{l:List α} {k:Nat} (h:k<l.length),(∀j (h:j<l.length),j<k->p l[j]=false)->p l[k]=true->l.find? p=some l[k]:=λ{l k} h h1 h2=>by
 rw[List.find?_eq_some_iff_getElem];exact ⟨h2,k,h,rfl,λi hi=>by rw[h1 i (by omega) hi];rfl⟩
theorem find_not {α:Type} {p:α->Bool} {l:List α} (h:∀j (h:j<l.length),j<l.length->p l[j]=false):l.find? p=none:=
 List.find?_eq_none.2 λs hs=>by
  obtain ⟨j,hj,rfl⟩:=List.mem_iff_getElem.1 hs;rw[h j hj hj];simp
theorem hdq_none {l:List Qs} {m:List Qr} {st:St} (h:Mq l m st) {nm:List UInt8} (h1:l.find? (λs=>inP s.pat.data.toList nm)=none):hdrR st nm=none:=by
 have e:st.S.find? (λs=>inP s.pat nm)=none:=by rw[<-h.1,find_map];exact congrArg (Option.map _) h1
 unfold hdrR;rw[e]
theorem hdq_some {l:List Qs} {m:List Qr} {st:St} (h:Mq l m st) {nm:List UInt8} {s:Qs} (h1:l.find? (λs=>inP s.pat.data.toList nm)=some s):(m.find? (λs=>inP s.pat.data.toList nm)=none->hdrR st nm=some (1,500000,s.ar))/\∀r,m.find? (λs=>inP s.pat.data.toList nm)=some r->hdrR st nm=some (r.kind,r.xff,s.ar):=by
 have e:st.S.find? (λs=>inP s.pat nm)=some s.p:=by rw[<-h.1,find_map];exact congrArg (Option.map _) h1
 have e2:∀o,m.find? (λs=>inP s.pat.data.toList nm)=o->st.R.find? (λs=>inP s.pat nm)=o.map Qr.p:=λo ho=>by
  rw[<-h.2,find_map];exact congrArg (Option.map _) ho
 unfold hdrR;rw[e];exact ⟨λh2=>by rw[e2 _ h2];rfl,λr h2=>by rw[e2 _ h2];rfl⟩
theorem rheader_any {w:World} {R B0:Nat} {W:World} {l:List Qs} {m:List Qr} {v1 v2:Value} (h:RqM w R B0 W l m v1 v2) {st:St} (hst:Mq l m st) (hl:(l.length:Int)<=1000) (hml:(m.length:Int)<=1000) (nm:ByteArray) (hs:(nm.size:Int)<=4096) (hp:∀s∈l,s.pat.size<=500) (hq:∀s∈m,s.pat.size<=500) (ha:∀s∈l,0<s.ar.length/\s.ar.length<=1000) (W1:World) (gW:Gr W W1) :
  Calls Tryz.prog 15 #[.pointer (some ⟨R,0,none⟩), .string nm] W1 (RetHh (hdrR st nm.data.toList) W1):=by
 have h:RqM w R B0 W1 l m v1 v2:=Two.gr' h gW;clear gW
 revert h
 generalize W1=W;intro h;obtain ⟨A,c,hv⟩:=own_form h.o1;obtain ⟨A2,c2,hv2⟩:=own_form h.o2;subst hv hv2;have hRW:R<W.heap.size:=Nat.lt_of_lt_of_le h.lt h.sz;have Hh:=Lib.hid h;have HA:=Lib.hid ha;have HST:=Lib.hid hst;have HPQ:=Lib.hid (And.intro hp hq);have HIN:=Lib.hid (λp hp W=>rin_any p nm hp hs W);obtain ⟨i0,hi0,hz0,hz1,hz2⟩:=info_parts info_arch;obtain ⟨V,hV⟩:∃V,V=(W.alloc (.cells #[.int .i64 0, .int .i64 0, .slice none 0 0] 29)).alloc (.cells #[.int .i64 1, .int .i64 500000, .slice none 0 0] 29):=⟨_,rfl⟩
 have gV:Gr W V:=by rw[hV];exact Gr.alloc (Gr.alloc (Gr.refl W) _) _
 have HS:Hid (HdQ W (.slice none 0 0) V):=Lib.hid (by
  refine ⟨gV,by rw[hV];simp,by rw[hV];go_simp,by rw[hV];go_simp,by rw[hV];go_simp,by rw[hV];go_simp,by rw[hV];go_simp,by rw[hV];go_simp,by rw[hV];go_simp,by rw[hV];go_simp,by rw[hV];go_simp,by rw[hV];go_simp,by rw[hV];go_simp,by rw[hV];go_simp⟩)
 have HV:=Lib.hid hV;clear hs hp hq ha hV gV h hst;go_enter Tryz.func15,Tryz.ntmps15;go_upto_region 2 with (fail)
 rw[<-HV.out];clear HV;go_wp2
 go_loopw [7] (λi wr=>∃k:Nat,k<=l.length/\i= .int .i64 k/\Hid (HdQ W (.slice none 0 0) wr/\∀j (h:j<l.length),j<k->inP l[j].pat.data.toList nm.data.toList=false)) (λi _=>l.length-(intOf i).toNat)
 case atStart=>exact ⟨0,Nat.zero_le _,rfl,Lib.hid ⟨HS.out,λj _ h=>absurd h (Nat.not_lt_zero _)⟩⟩
 case round=>
  obtain ⟨k,hk,rfl,HG⟩:=hrel;obtain ⟨u,rfl⟩:∃u,u=wr:=⟨_,rfl⟩
  have r0:=bc HG.out.1.gr hRW Hh.out.x1;have hRu:R<u.heap.size:=Nat.lt_of_lt_of_le hRW HG.out.1.gr.size;by_cases hlt:k<l.length;rotate_left
  ·have hge:¬(k:Int)<(l.length:Int):=by omega
   have HN:Hid (hdrR st nm.data.toList=none):=Lib.hid (hdq_none HST.out (find_not λj h hj=>HG.out.2 j h (by omega)));have hS:=HG.out.1;obtain ⟨-,hz,x0,x1,x2,y0,y1,y2,z0,z1,z2,z3,z4,z5⟩:=id hS;have HGR:=Lib.hid hS.gr;clear hS hlt;go_wp2;refine bodyPost_ret (v:= .tuple #[.agg #[.int .i64 0, .int .i64 0, .slice none 0 0], .bool false]) (by simp[results,Tryz.results15,go_sem, *]) rfl ?_;have ho:OffH 2 W u u:=⟨HGR.out,Nat.le_refl _,λ_ _ _=>rfl⟩
   have hoo:=(((ho.set ⟨W.heap.size,0,none⟩ (by show W.heap.size<=W.heap.size;omega) (by show W.heap.size<_;omega) (.int .i64 0)).set ⟨W.heap.size,1,none⟩ (by show W.heap.size<=W.heap.size;omega) (by show W.heap.size<_;omega) (.int .i64 0)).set ⟨W.heap.size,2,none⟩ (by show W.heap.size<=W.heap.size;omega) (by show W.heap.size<_;omega) (.slice none 0 0))
   exact RetHh.no HN.out hoo.gr
  have hki:(k:Int)<(l.length:Int):=by omega
  obtain ⟨g,hgA, -,hgz,hcs⟩:=own_blockU Hh.out.o1 (Nat.lt_of_le_of_lt (Nat.zero_le k) hlt);subst hgA;obtain ⟨a0,a1⟩:=qscells_at l k hlt;have gr:=HG.out.1.gr;replace a0:=bc gr hgz (hcs _ _ a0);replace a1:=bc gr hgz (hcs _ _ a1);obtain ⟨s,hsk⟩:∃s,s=l[k]:=⟨_,rfl⟩
  have hmem:s∈l:=by rw[hsk];exact List.getElem_mem hlt
  rw[<-hsk] at a0 a1;have hgz1:g<u.heap.size:=Nat.lt_of_lt_of_le hgz gr.size;have HC:=Lib.hid (HIN.out s.pat (HPQ.out.1 s hmem) u);have HK:Hid (∃h:k<l.length,s=l[k]'h):=Lib.hid ⟨hlt,hsk⟩;have HM:=Lib.hid hmem;clear hcs hsk gr hlt hmem;cases hb:inP s.pat.data.toList nm.data.toList
  ·rw[hb] at HC;have HX:Hid (∀j (h:j<l.length),j<k+1->inP l[j].pat.data.toList nm.data.toList=false):=Lib.hid λj h hj=>by
    rcases Nat.lt_or_ge j k with h1|h1
    ·exact HG.out.2 j h h1
    ·obtain rfl:j=k:=by omega
     obtain ⟨_,e⟩:=HK.out;rw[<-e];exact hb
   clear hb;go_wp2_with (go_at_call 29;refine HC.out.mono ?_;rintro e w2 ⟨rfl,g2⟩;have G2:=Lib.hid g2;clear g2);go_roundw;case rel=>exact ⟨k+1,by omega,by go_num,Lib.hid ⟨HG.out.1.up G2.out,HX.out⟩⟩
   case measure=>simp[intOf];omega
  rw[hb] at HC;have HY:Hid ((m.find? (λs=>inP s.pat.data.toList nm.data.toList)=none->hdrR st nm.data.toList=some (1,500000,s.ar))/\∀r,m.find? (λs=>inP s.pat.data.toList nm.data.toList)=some r->hdrR st nm.data.toList=some (r.kind,r.xff,s.ar)):=Lib.hid (by
   obtain ⟨h,e⟩:=HK.out;have:=find_first (p:=λs:Qs=>inP s.pat.data.toList nm.data.toList) h HG.out.2 (by rw[<-e];exact hb);rw[<-e] at this;exact hdq_some HST.out this)
  clear hb;have hsl:=(HA.out s HM.out)
  have hsl1:(s.ar.length:Int)<=1000:=by omega
  go_upto_region 6 with (go_at_call 29;refine HC.out.mono ?_;rintro e w2 ⟨rfl,g2⟩)
  have hS2:=HG.out.1.up g2;have hra2:Ra w2 s.A s.ar:=Ra.gr ((Two.at' Hh.out) s HM.out) hS2.gr;replace r0:=bc g2 hRu r0;replace a1:=bc g2 hgz1 a1;have hgz2:g<w2.heap.size:=Nat.lt_of_lt_of_le hgz1 g2.size;have hR2:R<w2.heap.size:=Nat.lt_of_lt_of_le hRu g2.size;have hown0:(w2.alloc (.cells #[] 34)).ownsRow w2.heap.size 34 2 (.slice (some ⟨w2.heap.size,0,none⟩) 0 0) 0 []:=World.ownsRow_lit w2 #[] 0 (Nat.le_refl _) (Nat.zero_le _) rfl;have hr0:=hra2.rd.gr (Gr.alloc (Gr.refl w2) (.cells #[] 34));have HS2:=Lib.hid hS2;obtain ⟨-,hz,x0,x1,x2,y0,y1,y2,z0,z1,z2,z3,z4,z5⟩:=id hS2;clear g2 hra2 hS2 a0 HC;go_upto_region 7 with (at_builtin;refine wpList_append_rd rfl (.tmp 30) (.tmp 38) 27 rfl w2.heap.size 34 i0 _ 2 16 Tryz.underlying27 hi0 hz0 hz1 hz2 rfl (by decide) _ _ _ rfl hown0 s.A s.ar.length s.c (acells s.ar) rfl hr0 (acells_one _) (by unfold maxLen;omega) (by omega) (by simp) ?_;intro v' w9 hown9 hgr9 hat9;have hg9:Gr w2 w9:=(Gr.grown (Gr.alloc (Gr.refl w2) _) hgr9 (λk hk=>(by have h:some w2.heap.size=some k:=hk;injection h with h;omega)));rw[Nat.zero_add,List.nil_append] at hown9;obtain ⟨A',c',hv⟩:=own_form hown9;subst hv;have H9:=Lib.hid (And.intro hown9 hg9);have hS9:=HS2.out.up hg9;have HS9:=Lib.hid hS9;clear x0 x1 x2 y0 y1 y2 z0 z1 z2 z3 z4 z5 hz hgr9 hat9 hown0 hr0 hown9 hg9;obtain ⟨-,hz,x0,x1,x2,y0,y1,y2,z0,z1,z2,z3,z4,z5⟩:=id hS9;clear hS9)
  obtain ⟨w3,hw3⟩:∃w3,w3=w9.setCell ⟨W.heap.size+1,2,none⟩ (.slice A' s.ar.length c'):=⟨_,rfl⟩
  have hS3:HdQ W (.slice A' s.ar.length c') w3:=by
   have c0:∀b i,¬(b=W.heap.size+1/\i=2)->w3.cell? ⟨b,i,none⟩=w9.cell? ⟨b,i,none⟩:=λb i hb=>by
    rw[hw3];exact World.cell?_setCell_other _ _ _ _ (by simp;omega)
   have f0:∀b i,w3.frozen? ⟨b,i,none⟩=w9.frozen? ⟨b,i,none⟩:=λb i=>by rw[hw3,World.frozen?_setCell]
   exact ⟨by rw[hw3];exact HS9.out.gr.setCell (by show W.heap.size<=W.heap.size+1;omega) _,by rw[hw3];simp;exact HS9.out.sz,(c0 _ _ (by omega)).trans HS9.out.x0,(c0 _ _ (by omega)).trans HS9.out.x1,(c0 _ _ (by omega)).trans HS9.out.x2,(f0 _ _).trans HS9.out.y0,(f0 _ _).trans HS9.out.y1,(f0 _ _).trans HS9.out.y2,(c0 _ _ (by omega)).trans HS9.out.z0,(c0 _ _ (by omega)).trans HS9.out.z1,by rw[hw3];exact World.cell?_setCell_same' _ _ _ (by rw[HS9.out.z2];rfl),(f0 _ _).trans HS9.out.z3,(f0 _ _).trans HS9.out.z4,(f0 _ _).trans HS9.out.z5⟩
  have hO3:OffH 2 W w9 w3:=by
   rw[hw3];exact OffH.set ⟨HS9.out.gr,Nat.le_refl _,λ_ _ _=>rfl⟩ _ (by show W.heap.size<=W.heap.size+1;omega) (by show W.heap.size+1<_;omega) _
  have hra3:Hid (∀V',OffH 2 W w9 V'->Ra V' A' s.ar):=Lib.hid λV' ho=>by
   have hr:=Ra.own H9.out.1;have hge:∀ad,A'=some ad->w2.heap.size<=ad.block:=λad h=>(H9.out.1.lt ad.block (by rw[h];rfl)).1;exact hr.same λb hm=>ho.bl b (Nat.le_trans HS2.out.sz (blk_ge hge b hm)) (hr.lt b hm)
  have HO3:=Lib.hid hO3;have HS3:=Lib.hid hS3;rw[<-hw3];clear x0 x1 x2 y0 y1 y2 z0 z1 z2 z3 z4 z5 hz hO3 hS3 HS2 HS9 H9 hw3 r0 a1 hgz1 hgz2 hRu hR2 HG HS;go_wp2
  go_loopw [8] (λi wr=>∃k2:Nat,k2<=m.length/\i= .int .i64 k2/\Hid (Gr w3 wr/\∀j (h:j<m.length),j<k2->inP m[j].pat.data.toList nm.data.toList=false)) (λi _=>m.length-(intOf i).toNat)
  case atStart=>exact ⟨0,Nat.zero_le _,rfl,Lib.hid ⟨Gr.refl _,λj _ h=>absurd h (Nat.not_lt_zero _)⟩⟩
  case round=>
   obtain ⟨k2,hk2,rfl,HG2⟩:=hrel;have hS:=HS3.out.up HG2.out.1;have r1:=bc hS.gr hRW Hh.out.x2;have hRu:R<wr.heap.size:=Nat.lt_of_lt_of_le hRW hS.gr.size;have HSr:=Lib.hid hS;by_cases hlt2:k2<m.length;rotate_left
   ·have hge:¬(k2:Int)<(m.length:Int):=by omega
    have HN:=Lib.hid (HY.out.1 (find_not λj h hj=>HG2.out.2 j h (by omega)));obtain ⟨-,hz,x0,x1,x2,y0,y1,y2,z0,z1,z2,z3,z4,z5⟩:=id hS;clear hS hlt2;go_wp2;refine bodyPost_ret (v:= .tuple #[.agg #[.int .i64 1, .int .i64 500000, .slice A' s.ar.length c'], .bool true]) (by simp[results,Tryz.results15,go_sem, *]) rfl ?_;have ho:=HO3.out.up HG2.out.1;have hoo:=(((ho.set ⟨W.heap.size,0,none⟩ (by show W.heap.size<=W.heap.size;omega) (by show W.heap.size<_;omega) (.int .i64 1)).set ⟨W.heap.size,1,none⟩ (by show W.heap.size<=W.heap.size;omega) (by show W.heap.size<_;omega) (.int .i64 500000)).set ⟨W.heap.size,2,none⟩ (by show W.heap.size<=W.heap.size;omega) (by show W.heap.size<_;omega) (.slice A' s.ar.length c'))
    exact RetHh.yes HN.out (hra3.out _ hoo) hoo.gr
   have hki2:(k2:Int)<(m.length:Int):=by omega
   obtain ⟨g2,hgA2, -,hgz2,hcs2⟩:=own_blockU Hh.out.o2 (Nat.lt_of_le_of_lt (Nat.zero_le k2) hlt2);subst hgA2;obtain ⟨a0,a1,a2⟩:=qrcells_at m k2 hlt2;replace a0:=bc hS.gr hgz2 (hcs2 _ _ a0);replace a1:=bc hS.gr hgz2 (hcs2 _ _ a1);replace a2:=bc hS.gr hgz2 (hcs2 _ _ a2);obtain ⟨r,hrk⟩:∃r,r=m[k2]:=⟨_,rfl⟩
   have hmem:r∈m:=by rw[hrk];exact List.getElem_mem hlt2
   rw[<-hrk] at a0 a1 a2;have hgz3:g2<wr.heap.size:=Nat.lt_of_lt_of_le hgz2 hS.gr.size;have HC2:=Lib.hid (HIN.out r.pat (HPQ.out.2 r hmem) wr);have HK2:Hid (∃h:k2<m.length,r=m[k2]'h):=Lib.hid ⟨hlt2,hrk⟩;clear hcs2 hrk hlt2 hmem hS;cases hb:inP r.pat.data.toList nm.data.toList
   ·rw[hb] at HC2;have HX:Hid (∀j (h:j<m.length),j<k2+1->inP m[j].pat.data.toList nm.data.toList=false):=Lib.hid λj h hj=>by
     rcases Nat.lt_or_ge j k2 with h1|h1
     ·exact HG2.out.2 j h h1
     ·obtain rfl:j=k2:=by omega
      obtain ⟨_,e⟩:=HK2.out;rw[<-e];exact hb
    clear hb;go_wp2_with (go_at_call 29;refine HC2.out.mono ?_;rintro e w4 ⟨rfl,g4⟩;have G4:=Lib.hid g4;clear g4);go_roundw;case rel=>exact ⟨k2+1,by omega,by go_num,Lib.hid ⟨HG2.out.1.trans G4.out,HX.out⟩⟩
    case measure=>simp[intOf];omega
   rw[hb] at HC2;have HN:Hid (hdrR st nm.data.toList=some (r.kind,r.xff,s.ar)):=Lib.hid (by
    obtain ⟨h,e⟩:=HK2.out;have:=find_first (p:=λs:Qr=>inP s.pat.data.toList nm.data.toList) h HG2.out.2 (by rw[<-e];exact hb);rw[<-e] at this;exact HY.out.2 r this)
   clear hb HK2;go_upto_region 11 with (go_at_call 29;refine HC2.out.mono ?_;rintro e w4 ⟨rfl,g4⟩)
   generalize r.kind=kd at HN a1;generalize r.xff=xf at HN a2;obtain ⟨V9,hV9⟩:∃V9,V9=w4.drew:=⟨_,rfl⟩
   have g49:Gr wr V9:=by rw[hV9];exact g4.drew
   have hS9:=HSr.out.up g49;have HO9:=Lib.hid (HO3.out.up (HG2.out.1.trans g49));have hS0:SmH W R g2 (k2*3+1) (k2*3+2) (.slice (some ⟨g2,0,none⟩) m.length c2) kd xf V9:=⟨(bc g49 hRu r1),(bc g49 hgz3 a1),(bc g49 hgz3 a2),hRW,hgz2⟩
   refine wp_region_Z 19 (SmH W R g2 (k2*3+1) (k2*3+2) (.slice (some ⟨g2,0,none⟩) m.length c2) kd xf) (by kernel_rfl) ?_;rw[<-hV9];have HS9:=Lib.hid hS9;clear HSr hS9 hV9 a0 a1 a2 r1 g4 g49 hRu hgz3 hml HC2;refine zu 0 hS0 ?_;refine zu 1 hS0 ?_;refine zu 2 hS0 ?_;refine zu 3 hS0 ?_ (hy:=λW hS=>by obtain ⟨k0,k1,k2,k3,k4⟩:=hS;go_simp<;>rfl);refine zu 4 hS0 ?_;refine zu 5 hS0 ?_ (hy:=λW hS=>by obtain ⟨k0,k1,k2,k3,k4⟩:=hS;go_simp<;>rfl);refine zu 6 hS0 ?_;refine zu 7 hS0 ?_ (hy:=λW hS=>by obtain ⟨k0,k1,k2,k3,k4⟩:=hS;go_simp<;>rfl);refine zu 8 hS0 ?_;refine zu 9 hS0 ?_;refine zu 10 hS0 ?_;refine zu 11 hS0 ?_ (hy:=λW hS=>by obtain ⟨k0,k1,k2,k3,k4⟩:=hS;go_simp<;>rfl);refine zu 12 hS0 ?_;refine zu 13 hS0 ?_ (hy:=λW hS=>by obtain ⟨k0,k1,k2,k3,k4⟩:=hS;go_simp<;>rfl);refine zu 14 hS0 ?_;refine zu 15 hS0 ?_ (hy:=λW hS=>by obtain ⟨k0,k1,k2,k3,k4⟩:=hS;go_simp<;>rfl);have z0:=HS9.out.z0;have z1:=HS9.out.z1;have z3:=HS9.out.z3;have z4:=HS9.out.z4;refine zs 16 rfl (λK hK=>?_);go_wp2_with fail;refine hK.out _ _ (λhnz=>?s17) (λ_=>?r17);case s17=>exact hS0
   clear hK K;try simp only[Pu,Gl]
   refine zs 17 rfl (λK hK=>?_);go_wp2_with fail;refine hK.out _ _ (λhnz=>?s18) (λ_=>?r18);case s18=>exact hS0.set _ (by show W.heap.size<=W.heap.size+1;omega) _
   clear hK K;try simp only[Pu,Gl]
   refine zs 18 rfl (λK hK=>?_);go_wp2_with fail;refine hK.out _ _ (λhnz=>?s19) (λ_=>?r19);case s19=>exact hS0.set _ (by show W.heap.size<=W.heap.size+1;omega) _
   clear hK K;try simp only[Pu,Gl]
   refine zs 19 rfl (λK hK=>?_);go_wp2_with fail;refine hK.out _ _ (λhnz=>?s20) (λ_=>?r20);case s20=>exact absurd rfl hnz
   clear hK K;try simp only[Pu,Gl]
   refine wpAnyZ_done (by kernel_rfl) ?_ _;obtain ⟨-, -,x0,x1,x2,y0,y1,y2, -, -,z2, -⟩:=HS9.out;go_wp2;refine bodyPost_ret (v:= .tuple #[.agg #[.int .i64 kd, .int .i64 xf, .slice A' s.ar.length c'], .bool true]) (by simp[results,Tryz.results15,go_sem, *]) rfl ?_;have ho:=((HO9.out.set ⟨W.heap.size+1,0,none⟩ (by show W.heap.size<=W.heap.size+1;omega) (by show W.heap.size+1<_;omega) (.int .i64 kd)).set ⟨W.heap.size+1,1,none⟩ (by show W.heap.size<=W.heap.size+1;omega) (by show W.heap.size+1<_;omega) (.int .i64 xf))
   have hoo:=(((ho.set ⟨W.heap.size,0,none⟩ (by show W.heap.size<=W.heap.size;omega) (by show W.heap.size<_;omega) (.int .i64 kd)).set ⟨W.heap.size,1,none⟩ (by show W.heap.size<=W.heap.size;omega) (by show W.heap.size<_;omega) (.int .i64 xf)).set ⟨W.heap.size,2,none⟩ (by show W.heap.size<=W.heap.size;omega) (by show W.heap.size<_;omega) (.slice A' s.ar.length c'))
   exact RetHh.yes HN.out (hra3.out _ hoo) hoo.gr
end Go.Proofs.YtjapddfnpmlifaaGreatDoor
