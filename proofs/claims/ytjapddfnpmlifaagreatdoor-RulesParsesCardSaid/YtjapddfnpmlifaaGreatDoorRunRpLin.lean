import Derived.Test.YtjapddfnpmlifaaGreatDoorRunRpDecP
import Derived.Test.YtjapddfnpmlifaaGreatDoorRunRpSame
import Derived.Test.YtjapddfnpmlifaaGreatDoorRunFxBase
import Derived.Test.YtjapddfnpmlifaaGreatDoorRunRuFit
import Derived.Test.YtjapddfnpmlifaaGreatDoorRlShelf
import Derived.RangeFuncKeeps
import Derived.RangeFuncLeaves
import Derived.RangeFuncCalls
import Derived.Shelf.Abstract
import Derived.WalkKit
import Derived.OwnWalkIn
import Derived.TacticsInMore
import Derived.LoopNIn
import Derived.LoopIn
import Derived.Lib.Hide
set_option linter.all false
set_option maxRecDepth 1000000
set_option maxHeartbeats 12800000
namespace Go.Proofs.YtjapddfnpmlifaaGreatDoor
open Go.RowKit
def anyE (m:List (List UInt8)):Bool:=m.any λp=>p.isEmpty
theorem anyE_take (m:List (List UInt8)) (k:Nat) (h:k<m.length):anyE (m.take (k+1))=(anyE (m.take k)||(m[k]).isEmpty):=by
 unfold anyE;rw[List.take_succ_eq_append_getElem h,List.any_append];simp only[List.any_cons,List.any_nil,Bool.or_false]
theorem anyE_of {m:List (List UInt8)} {k:Nat} (h:anyE (m.take k)=true):anyE m=true:=by
 unfold anyE at *;rw[List.any_eq_true] at *;obtain ⟨x,hx,he⟩:=h;exact ⟨x,List.mem_of_mem_take hx,he⟩
theorem idx_any (m:List (List UInt8)) (hl:(m.length:Int)<=1000) (b c:Nat) (w:World) (hS:Strs w b m):Calls Tryz.prog 50 #[.slice (some ⟨b,0,none⟩) m.length c, .string ⟨#[]⟩] w λe w'=>(∃k:Int,e= .returned (.int .i64 k)/\((k= -1/\anyE m=false)\/(0<=k/\anyE m=true)))/\w=w':=by
 have HS:=Lib.hid hS;obtain ⟨n,hn⟩:∃n,n=m.length:=⟨_,rfl⟩
 rw[<-hn] at hl ⊢;have Hn:=Lib.hid hn;clear hS hn;go_enter Tryz.func50,Tryz.ntmps50;go_wp2
 go_loop [8] (λi=>∃k:Nat,k<=n/\i= .int .i64 k/\anyE (m.take k)=false) (λi=>n-(intOf i).toNat)
 case atStart=>exact ⟨0,Nat.zero_le _,rfl,rfl⟩
 case round=>
  obtain ⟨k,hk,rfl,ha⟩:=hrel;have Ha:=Lib.hid ha;clear ha;by_cases hlt:k<n
  ·have hlt':(k:Int)<(n:Int):=by omega
   have hkm:k<m.length:=by rw[<-Hn.out];exact hlt
   have hc:=HS.out k hkm;have ht:=anyE_take m k hkm;rw[Ha.out,Bool.false_or] at ht;have he:(⟨m[k].toArray⟩:ByteArray).toList.isEmpty=(m[k]).isEmpty:=by rw[toList_data_ru]
   obtain ⟨x,hx⟩:∃x:ByteArray,x=⟨m[k].toArray⟩:=⟨_,rfl⟩
   rw[<-hx] at hc he;have he2:(x.toList==[])=(m[k]).isEmpty:=by rw[<-he];cases x.toList<;>rfl
   cases hb:(m[k]).isEmpty
   ·rw[hb] at ht he he2;have Ht:=Lib.hid ht;clear hx hb ht;go_wp2;go_round;case rel=>exact ⟨k+1,by omega,by go_num,Ht.out⟩
    case measure=>simp[intOf];omega
   ·rw[hb] at ht he he2;have Ht:=Lib.hid (anyE_of ht);clear hx hb ht;go_wp2;go_ret;exact ⟨⟨k,rfl, .inr ⟨by omega,Ht.out⟩⟩,rfl⟩
  ·have hks:k=n:=by omega
   have hge:¬(k:Int)<(n:Int):=by omega
   have Hx:Hid (anyE m=false):=Lib.hid (by
    have:=Ha.out
    rwa [List.take_of_length_le (by rw[<-Hn.out];omega)] at this)
   clear hks;go_wp2;go_ret;exact ⟨⟨-1,rfl, .inl ⟨rfl,Hx.out⟩⟩,rfl⟩
theorem cont_any (m:List (List UInt8)) (hl:(m.length:Int)<=1000) (b c:Nat) (w:World) (hS:Strs w b m):Calls Tryz.prog 34 #[.slice (some ⟨b,0,none⟩) m.length c, .string ⟨#[]⟩] w λe w'=>e= .returned (.bool (anyE m))/\w=w':=by
 have HI:=Lib.hid (idx_any m hl b c w hS);clear hS;go_enter Tryz.func34,Tryz.ntmps34;go_wp2_with (go_at_call 50;refine HI.out.mono ?_;rintro e w' ⟨⟨k,rfl,hk⟩,rfl⟩;have HK:=Lib.hid hk;clear hk);go_ret;rcases HK.out with ⟨rfl,e⟩|⟨h,e⟩
 ·exact ⟨by rw[e];rfl,rfl⟩
 ·exact ⟨by rw[e];simp[h],rfl⟩
theorem split_cap (s:ByteArray) (c:UInt8) (hs:(s.size:Int)<=4096) (w:World) (hm:Ml w):Calls Tryz.prog 33 #[.string s, .string ⟨#[c]⟩] w λe w'=>∃b cp,e= .returned (.slice (some ⟨b,0,none⟩) (partS c s.data.toList).length cp)/\(partS c s.data.toList).length<=cp/\w.heap.size<=b/\b<w'.heap.size/\Strs w' b (partS c s.data.toList)/\Gr w w':=by
 obtain ⟨m,hm⟩:=hm;have hk:Lib.splitK [c] 0 (Lib.count s.data.toList [c]) s.data.toList=partS c s.data.toList:=splitK_part c _ _ (Nat.le_refl _);have hd:=Lib.splitB_data ⟨#[c]⟩ 0 (Lib.countB s ⟨#[c]⟩) s;have e0:(⟨#[c]⟩:ByteArray).data.toList=[c]:=rfl;rw[e0] at hd;have e1:Lib.countB s ⟨#[c]⟩=Lib.count s.data.toList [c]:=rfl;rw[e1,hk] at hd;have hlen:=Lib.splitB_all ⟨#[c]⟩ (Nat.le_refl 1) 0 _ s rfl;rw[e1] at hlen;have hl2:(partS c s.data.toList).length=Lib.count s.data.toList [c]+1:=by rw[<-hd,List.length_map];exact hlen
 refine (Tryz.strings_Split s ⟨#[c]⟩ m w (by omega) hm (Nat.le_refl 1)).mono ?_;rintro e w' ⟨rfl,rfl⟩;rw[e1,<-hl2];refine ⟨w.heap.size,_,rfl,Nat.le_refl _,Nat.le_refl _,by simp,?_,Gr.alloc (Gr.refl w) _⟩;have e3:((Lib.splitB ⟨#[c]⟩ 0 (Lib.count s.data.toList [c]) s).map Value.string)=scells (partS c s.data.toList):=by
  rw[<-hd];unfold scells;rw[List.map_map];rfl
 rw[e3];intro k hk';have:(scells (partS c s.data.toList))[k]?=some (.string ⟨((partS c s.data.toList)[k]).toArray⟩):=by simp[scells,List.getElem?_map,List.getElem?_eq_getElem hk']
 exact (cell_of_row _ _ _ _ _ _ (heap_alloc_new w _)).trans (by simpa using this)
theorem words3 (a x y:List UInt8):wordsS [a,x,y]=bif a==wSch then lnS (schS x y) else .bad:=rfl
theorem words4 (a x y z:List UInt8):wordsS [a,x,y,z]=bif a==wRul then lnR (rulS x y z) else .bad:=rfl
theorem words_empty:∀m:List (List UInt8),anyE m=true->wordsS m= .bad
 | [a,x,y],h=>by
  rw[words3];cases ha:(a==wSch)
  ·rfl
  ·have ha:a=wSch:=by simpa using ha
   subst ha;cases x with
   | nil=>rfl
   | cons c x=>
    cases y with
    | nil=>
     have:retS []=none:=by kernel_rfl
     rw[cond_true];unfold schS;rw[this];cases patB (c::x)<;>rfl
    | cons d y=>exact absurd h (by simp[anyE,wSch])
 | [a,x,y,z],h=>by
  rw[words4];cases ha:(a==wRul)
  ·rfl
  ·have ha:a=wRul:=by simpa using ha
   subst ha;cases x with
   | nil=>rfl
   | cons c x=>
    cases y with
    | nil=>
     have:kindI ⟨([]:List UInt8).toArray⟩=0:=by kernel_rfl
     rw[cond_true];unfold rulS;rw[this];cases patB (c::x)<;>rfl
    | cons d y=>
     cases z with
     | nil=>
      have:xffS []=none:=by kernel_rfl
      rw[cond_true];unfold rulS;rw[this];cases (patB (c::x)&&kindI ⟨(d::y).toArray⟩ != 0)<;>rfl
     | cons e z=>exact absurd h (by simp[anyE,wRul])
 | [],_=>rfl
 | [_],_=>rfl
 | [_,_],_=>rfl
 | _::_::_::_::_::_,_=>rfl
theorem words_no {m:List (List UInt8)} (h3:∀a x y,m=[a,x,y]->(a==wSch)=false) (h4:∀a x y z,m=[a,x,y,z]->(a==wRul)=false):wordsS m= .bad:=by
 match m,h3,h4 with
 | [a,x,y],h3,_=>rw[words3,h3 a x y rfl];rfl
 | [a,x,y,z],_,h4=>rw[words4,h4 a x y z rfl];rfl
 | [],_,_=>rfl
 | [_],_,_=>rfl
 | [_,_],_,_=>rfl
 | _::_::_::_::_::_,_,_=>rfl
theorem LnP.form {w:World} {R B0:Nat} {wr:World} {l:List Sc} {m:List Ru} {v1 v2:Value} {a:Ln} {e:Ending} {w':World} (h:LnP w R B0 wr l m v1 v2 a e w'):∃v:Int,e= .returned (.int .i64 v):=by
 cases a with
 | bad=>exact ⟨15,h.1⟩
 | s v=>exact ⟨0,h.1⟩
 | r v=>exact ⟨0,h.1⟩
theorem three_of {q:List (List UInt8)} {u:List UInt8} (h0:0<q.length) (h:(q[0]==u)=true) (h3:3=q.length):∃x y,q=[u,x,y]:=by
 match q,h0,h,h3 with
 | [a,x,y],_,h,_=>exact ⟨x,y,by rw[show a=u by simpa using h]⟩
theorem four_of {q:List (List UInt8)} {u:List UInt8} (h0:0<q.length) (h:(q[0]==u)=true) (h3:4=q.length):∃x y z,q=[u,x,y,z]:=by
 match q,h0,h,h3 with
 | [a,x,y,z],_,h,_=>exact ⟨x,y,z,by rw[show a=u by simpa using h]⟩
theorem line_any {w wr:World} {R B0:Nat} {l:List Sc} {m:List Ru} {v1 v2:Value} (h:RpM w R B0 wr l m v1 v2) (s:ByteArray) (hs:(s.size:Int)<=300) (hl:l.length<=1000) (hml:m.length<=1000) (hm:Ml wr) :
  Calls Tryz.prog 19 #[.pointer (some ⟨R,0,none⟩), .string s] wr (LnP w R B0 wr l m v1 v2 (lineS s.data.toList)):=by
 obtain ⟨q,hq⟩:∃q,q=partS 32 s.data.toList:=⟨_,rfl⟩
 have HL:Hid (lineS s.data.toList=wordsS q):=Lib.hid (by rw[hq];rfl);have HSP:=Lib.hid (split_cap s 32 (by omega) wr hm);rw[<-hq] at HSP;have hsz:s.data.toList.length=s.size:=by simp
 have hql:(q.length:Int)<=301:=by
  have:=partS_len 32 s.data.toList;rw[<-hq] at this;omega
 have HQP:Hid (∀p∈q,(p.length:Int)<=300):=Lib.hid λp hp=>by
  have:=(partS_mem 32 s.data.toList p (hq▸hp)).1;omega
 have hq0:0<q.length:=by
  have:=part_sum 32 s.data.toList;rw[<-hq] at this;cases q with
  | nil=>simp[sumL] at this
  | cons a q=>simp
 have HM:=Lib.hid hm;have Hh:=Lib.hid h;have hRl:R<wr.heap.size:=Nat.lt_of_lt_of_le h.lt h.sz;clear h hm hq hsz;go_enter Tryz.func19,Tryz.ntmps19;go_upto_region 2 with (go_at_call 33;refine HSP.out.mono ?_;rintro e w1 ⟨b,cp,rfl,hcp,hb0,hb,hS,g1⟩)
 have HCT:=Lib.hid (cont_any q (by omega) b cp w1 hS);have G1:=Lib.hid g1;have h1:=Lib.hid (Two.gr' Hh.out g1);have HM1:=Lib.hid (HM.out.gr g1);have hv1:some b≠v1.ownBlock:=λe=>by have:=(Hh.out.o1.lt b e.symm).2;omega
 have hv2:some b≠v2.ownBlock:=λe=>by have:=(Hh.out.o2.lt b e.symm).2;omega
 have HV12:=Lib.hid (And.intro hv1 hv2);have HS:=Lib.hid hS;have hkeep:Hid (∀(a:Ln) e w',LnP w R B0 w1 l m v1 v2 a e w'->LnP w R B0 wr l m v1 v2 a e w'):=Lib.hid λa e w' hp=>by
  have hk:∀k,k<B0->w1.heap[k]?=wr.heap[k]?:=λk hk=>Below.block G1.out k (Nat.lt_of_lt_of_le hk Hh.out.sz);cases a with
  | bad=>exact ⟨hp.1,G1.out.trans hp.2⟩
  | s v=>
   obtain ⟨e1,s1,v',a1,a2,a3,a4⟩:=hp;exact ⟨e1,s1,v',a1,a2,a3,λk hk' hne=>(a4 k hk' hne).trans (hk k hk')⟩
  | r v=>
   obtain ⟨e1,s1,v',a1,a2,a3,a4,a5⟩:=hp;exact ⟨e1,s1,v',a1,a2,a3,a4,λk hk' hne=>(a5 k hk' hne).trans (hk k hk')⟩
 clear g1 hS hv1 hv2;cases hE:anyE q;rotate_left
 ·have HB:Hid (lineS s.data.toList= .bad):=Lib.hid (by rw[HL.out];exact words_empty q hE);rw[hE] at HCT;clear hE;go_wp2_with (go_at_call 34;refine HCT.out.mono ?_;rintro e w2 ⟨rfl,rfl⟩);go_ret;rw[HB.out];exact ⟨rfl,G1.out⟩
 have HE:=Lib.hid hE;rw[hE] at HCT;clear hE;have c0:w1.cell? ⟨b,0,none⟩=some (.string ⟨(q[0]'hq0).toArray⟩):=HS.out 0 hq0;obtain ⟨X,hX⟩:∃X:ByteArray,X=⟨(q[0]'hq0).toArray⟩:=⟨_,rfl⟩
 obtain ⟨n,hn⟩:∃n,n=q.length:=⟨_,rfl⟩
 rw[<-hn] at hcp hql HCT ⊢;rw[<-hX] at c0;have hcpi:(n:Int)<=(cp:Int):=by omega
 have hn0:0<n:=by omega
 have hn0i:(0:Int)<(n:Int):=by omega
 have hs1:(X.toList==[115,99,104,101,109,97])=((q[0]'hq0)==wSch):=by rw[hX,toList_data_ru];rfl
 have hr1:(X.toList==[114,117,108,101])=((q[0]'hq0)==wRul):=by rw[hX,toList_data_ru];rfl
 have HX:=Lib.hid hX;have HN:=Lib.hid hn;clear hX hn;by_cases hA:((q[0]'hq0)==wSch)=true/\n=3
 ·obtain ⟨ha,rfl⟩:=hA;rw[ha] at hs1;obtain ⟨x,y,hxy⟩:=three_of hq0 ha HN.out;have HB:Hid (lineS s.data.toList=lnS (schS x y)):=Lib.hid (by rw[HL.out,hxy,words3];rfl);have cx:w1.cell? ⟨b,1,none⟩=some (.string ⟨x.toArray⟩):=by have:=HS.out 1 (by rw[hxy];simp);simpa [hxy] using this
  have cy:w1.cell? ⟨b,2,none⟩=some (.string ⟨y.toArray⟩):=by have:=HS.out 2 (by rw[hxy];simp);simpa [hxy] using this
  have hxl:(x.length:Int)<=300:=HQP.out x (by rw[hxy];simp);have hyl:(y.length:Int)<=300:=HQP.out y (by rw[hxy];simp);have hx0:x≠[]:=λe=>(by
   have:=HE.out;rw[hxy,e] at this;simp[anyE,wSch] at this)
  have HSC:=Lib.hid (λcw=>schema_any h1.out cw ⟨x.toArray⟩ ⟨y.toArray⟩ hb (by omega) HV12.out.1 cx cy (by show x.toArray.size<=500;rw[List.size_toArray];omega) (by show ((y.toArray.size:Nat):Int)<=300;rw[List.size_toArray];omega) hx0 hl HM1.out);clear cx cy hxy ha hr1 hx0;go_wp2_with (first|(go_at_call 34;refine HCT.out.mono ?_;rintro e w2 ⟨rfl,rfl⟩)|(go_at_call 35;refine (HSC.out _).mono ?_;intro e w3 hp;obtain ⟨v,rfl⟩:=hp.form;have HPP:=Lib.hid (hkeep.out _ _ _ hp);clear hp));go_ret;rw[HB.out];exact HPP.out
 by_cases hR:((q[0]'hq0)==wRul)=true/\n=4
 ·obtain ⟨ha,rfl⟩:=hR;have hf:((q[0]'hq0)==wSch)=false:=by
   have:q[0]'hq0=wRul:=by simpa using ha
   rw[this];rfl
  rw[ha] at hr1;rw[hf] at hs1;obtain ⟨x,y,z,hxy⟩:=four_of hq0 ha HN.out;have HB:Hid (lineS s.data.toList=lnR (rulS x y z)):=Lib.hid (by rw[HL.out,hxy,words4];rfl);have cx:w1.cell? ⟨b,1,none⟩=some (.string ⟨x.toArray⟩):=by have:=HS.out 1 (by rw[hxy];simp);simpa [hxy] using this
  have cy:w1.cell? ⟨b,2,none⟩=some (.string ⟨y.toArray⟩):=by have:=HS.out 2 (by rw[hxy];simp);simpa [hxy] using this
  have cz:w1.cell? ⟨b,3,none⟩=some (.string ⟨z.toArray⟩):=by have:=HS.out 3 (by rw[hxy];simp);simpa [hxy] using this
  have hxl:(x.length:Int)<=300:=HQP.out x (by rw[hxy];simp);have hzl:(z.length:Int)<=300:=HQP.out z (by rw[hxy];simp);have hx0:x≠[]:=λe=>(by
   have:=HE.out;rw[hxy,e] at this;simp[anyE,wRul] at this)
  have HSC:=Lib.hid (λcw=>rule_any h1.out cw ⟨x.toArray⟩ ⟨y.toArray⟩ ⟨z.toArray⟩ hb (by omega) HV12.out.2 cx cy cz (by show x.toArray.size<=500;rw[List.size_toArray];omega) (by show ((z.toArray.size:Nat):Int)<=4000;rw[List.size_toArray];omega) hx0 hml HM1.out);clear cx cy cz hxy ha hf hx0 hA;go_wp2_with (first|(go_at_call 34;refine HCT.out.mono ?_;rintro e w2 ⟨rfl,rfl⟩)|(go_at_call 36;refine (HSC.out _).mono ?_;intro e w3 hp;obtain ⟨v,rfl⟩:=hp.form;have HPP:=Lib.hid (hkeep.out _ _ _ hp);clear hp));go_ret;rw[HB.out];exact HPP.out
 have HB:Hid (lineS s.data.toList= .bad):=Lib.hid (by
  rw[HL.out];refine words_no (λa x y e=>?_) (λa x y z e=>?_)
  ·subst e;cases hc:(a==wSch)
   ·rfl
   ·exact absurd ⟨hc,HN.out⟩ hA
  ·subst e;cases hc:(a==wRul)
   ·rfl
   ·exact absurd ⟨hc,HN.out⟩ hR)
 have h3:((q[0]'hq0)==wSch)=true->¬(n:Int)=3:=λh e=>hA ⟨h,by omega⟩;have h4:((q[0]'hq0)==wRul)=true->¬(n:Int)=4:=λh e=>hR ⟨h,by omega⟩;generalize ((q[0]'hq0)==wSch)=bs at hs1 h3;generalize ((q[0]'hq0)==wRul)=br at hr1 h4;have H3:=Lib.hid h3;have H4:=Lib.hid h4;clear hA hR h3 h4;cases bs<;>cases br
 ·go_wp2_with (go_at_call 34;refine HCT.out.mono ?_;rintro e w2 ⟨rfl,rfl⟩);go_ret;rw[HB.out];exact ⟨rfl,G1.out⟩
 ·have k4:((n:Int)==4)=false:=beq_eq_false_iff_ne.2 (H4.out rfl);go_wp2_with (go_at_call 34;refine HCT.out.mono ?_;rintro e w2 ⟨rfl,rfl⟩);go_ret;rw[HB.out];exact ⟨rfl,G1.out⟩
 ·have k3:((n:Int)==3)=false:=beq_eq_false_iff_ne.2 (H3.out rfl);go_wp2_with (go_at_call 34;refine HCT.out.mono ?_;rintro e w2 ⟨rfl,rfl⟩);go_ret;rw[HB.out];exact ⟨rfl,G1.out⟩
 ·have k3:((n:Int)==3)=false:=beq_eq_false_iff_ne.2 (H3.out rfl);have k4:((n:Int)==4)=false:=beq_eq_false_iff_ne.2 (H4.out rfl);go_wp2_with (go_at_call 34;refine HCT.out.mono ?_;rintro e w2 ⟨rfl,rfl⟩);go_ret;rw[HB.out];exact ⟨rfl,G1.out⟩
section
open Go.RowKit Go.Shelf
attribute [local go_sem] Oper.semAt_some
def LnS (B:Nat) (s:ByteArray) (W:World):Prop:=W.cell? ⟨B,0,none⟩=some (.string s)/\W.frozen? ⟨B,0,none⟩=false
def strLen:Option Value->Nat
 | some (.string s)=>s.size
 | _=>0
theorem ext_line (s:ByteArray) (x r:List UInt8) (h:s.data.toList=x++10::r):s.extract 0 (x.length+1)=⟨(x++[10]).toArray⟩/\s.extract (x.length+1) s.size=⟨r.toArray⟩/\x.length+1<=s.size:=by
 have hs:s.size=s.data.toList.length:=by simp
 have e1:x++10::r=(x++[10])++r:=by simp
 refine ⟨?_,?_,?_⟩
 ·rw[ext_eq,h,List.drop_zero,Nat.sub_zero,e1,List.take_left' (by simp)]
 ·rw[ext_eq,h,e1,List.drop_left' (by simp),List.take_of_length_le (by rw[hs,h];simp;omega)]
 ·rw[hs,h];simp
theorem lines_walk (l B:Nat) (ls:List (List UInt8)) (J:List (List UInt8)->World->Prop) (L:World->Prop)
  (hJs:∀pre W v,J pre W->J pre (W.setCell ⟨B,0,none⟩ v)) (hJd:∀pre W,J pre W->J pre W.drew)
  (hY:∀pre x W s,J pre W->(pre++[x]) <+: ls->W.cell? ⟨B,0,none⟩=some (.string s)->W.frozen? ⟨B,0,none⟩=false->YieldAt Fence.wide 0 Tryz.prog l #[.string ⟨x.toArray⟩] W λe W'=>
   (e= .returned (.bool true)/\J (pre++[x]) W'/\W'.cell? ⟨B,0,none⟩=some (.string s)/\W'.frozen? ⟨B,0,none⟩=false)\/(e= .returned (.bool false)/\L W'))
  (t:ByteArray) (ht:ls=linesS t.data.toList) (hts:(t.size:Int)<=1000000) (W:World) (hc:W.cell? ⟨B,0,none⟩=some (.string t)) (hf:W.frozen? ⟨B,0,none⟩=false) (h0:J [] W) :
  CallsIn Fence.wide 1 Tryz.prog 30 #[.func (.yield l) #[] #[], .pointer (some ⟨B,0,none⟩)] W λe W'=>(∃v,e= .returned v)/\(J ls W'\/L W'):=by
 refine callsIn_of_wp Tryz.func30 rfl trivial ?_ rfl;simp only[Tryz.ntmps30,List.size_toArray,List.length_cons,List.length_nil,Nat.reduceAdd,Nat.reduceSub,Array.replicate_succ,Array.replicate_zero,List.push_toArray,List.append_toArray,List.nil_append,List.cons_append];have hK0:∃pre s,ls=pre++linesS s.data.toList/\(s.size:Int)<=1000000/\LnS B s W/\J pre W:=⟨[],t,by rw[ht];rfl,hts,⟨hc,hf⟩,h0⟩
 have HK0:=Lib.hid hK0;have HT:=Lib.hid ht;have HY:=Lib.hid hY;have HJ:=Lib.hid (And.intro hJs hJd);clear hK0 h0 ht hY hJs hJd hc hf
 gi_wp2
 gi_loopw [] (λwr=>∃pre s,ls=pre++linesS s.data.toList/\(s.size:Int)<=1000000/\LnS B s wr/\J pre wr) (λwr=>strLen (wr.cell? ⟨B,0,none⟩))
 case atStart=>exact HK0.out
 case round=>
  clear HK0;obtain ⟨pre,s,hls,hss,hS,hJ⟩:=hrel;have hJJ:=Lib.hid hJ;have HL:=Lib.hid hls;have hz:Hid (s.data.toList.length=s.size):=Lib.hid (by simp);clear hJ hls;by_cases he:s.size=0
  ·have hL:Hid (J ls wr):=Lib.hid (by
    have:s.data.toList=[]:=List.eq_nil_of_length_eq_zero (by rw[hz.out];exact he);have h:=HL.out;rw[this] at h;rw[h];simpa [linesS] using hJJ.out)
   have c0:=hS.1;have hei:¬(0:Int)<(s.size:Int):=by omega
   clear hS he
   gi_wp2
   go_end0;exact ⟨⟨_,rfl⟩, .inl hL.out⟩
  ·have hei:(0:Int)<(s.size:Int):=by omega
   obtain ⟨c0,f0⟩:=id hS;by_cases h10:(10:UInt8)∈s.data.toList
   ·obtain ⟨x,r,hxr,hx⟩:=split_ten _ h10;have hix:Lib.indexByte s.data.toList ((10:Int).toNat.toUInt8)=(x.length:Int):=by rw[hxr];exact idx_at x r hx
    obtain ⟨e1,e2,hle⟩:=ext_line s x r hxr;obtain ⟨k,hk⟩:∃k,k=x.length:=⟨_,rfl⟩
    rw[<-hk] at hix e1 e2 hle;have Hlines:Hid (linesS s.data.toList=(x++[10])::linesS r):=Lib.hid (by rw[hxr];exact lines_end x r hx);have Hk:=Lib.hid hk;have hkl:(k:Int)+1<=(s.size:Int):=by omega
    have hIB:=Tryz.strings_IndexByte s 10;rw[hix] at hIB;have HIB:=Lib.hid hIB;have HLn:Hid (ls=pre++[x++[10]]++linesS r):=Lib.hid (by rw[HL.out,Hlines.out];simp);have HPx:Hid ((pre++[x++[10]]) <+: ls):=Lib.hid ⟨linesS r,HLn.out.symm⟩;have hrl:Hid (r.length+1<=s.size):=Lib.hid (by rw[<-hz.out,hxr];simp);have HSz:Hid ((((⟨r.toArray⟩:ByteArray).size:Nat):Int)<=1000000/\(⟨r.toArray⟩:ByteArray).size<s.size):=Lib.hid (by
     have e:(⟨r.toArray⟩:ByteArray).size=r.length:=List.size_toArray ..;have:=hrl.out;rw[e];omega)
    have c0w:=Lib.hid c0;clear h10 hxr hx hk hix hIB he
    gi_wp2_with (refine ⟨trivial,?_⟩;gi_at_call 31;refine (callsIn_wide.2 (HIB.out _)).mono ?_;rintro e w1 ⟨rfl,rfl⟩)
    refine wpIn_wide.2 ?_;have hwk:IntKind.i64.wrap ((k:Int)+1)=(k:Int)+1:=IntWalk.i64_in _ (by omega);obtain ⟨V,hV⟩:∃V,V=w1.drew:=⟨_,rfl⟩
    have hS0:LnS B s V:=by rw[hV];exact hS
    have hJV:Hid (J pre V):=Lib.hid (by rw[hV];exact HJ.out.2 _ _ hJJ.out);have HS0:=Lib.hid hS0;clear c0 f0 hS;refine wp_region_Z 9 (LnS B s) (by kernel_rfl) ?_;rw[<-hV];clear hV;refine zu 0 hS0 ?_ (hy:=λW hS=>by obtain ⟨s0, -⟩:=hS;go_simp<;>rfl);refine zu 1 hS0 ?_;refine zu 2 hS0 ?_;refine zu 3 hS0 ?_;refine zu 4 hS0 ?_ (hy:=λW hS=>by obtain ⟨s0, -⟩:=hS;go_simp<;>rfl);refine zu 5 hS0 ?_;refine zu 6 hS0 ?_;refine zu 7 hS0 ?_;refine zu 8 hS0 ?_;refine zs 9 rfl (λK hK=>?_);simp only[Gl];obtain ⟨s0,s1⟩:=id hS0;go_simp;refine hK.out _ _ (λhnz=>?zs9) (λ_=>?zr9);case zs9=>exact absurd rfl hnz
    clear hK K;try simp only[Pu,Gl]
    refine wpAnyZ_done (by kernel_rfl) ?_ _;have J5:=HJ.out.1 pre V (.string ⟨r.toArray⟩) hJV.out;have c5:(V.setCell ⟨B,0,none⟩ (.string ⟨r.toArray⟩)).cell? ⟨B,0,none⟩=some (.string ⟨r.toArray⟩):=World.cell?_setCell_same' _ _ _ (by rw[hS0.1];rfl);have f5:(V.setCell ⟨B,0,none⟩ (.string ⟨r.toArray⟩)).frozen? ⟨B,0,none⟩=false:=by rw[World.frozen?_setCell];exact hS0.2
    generalize V.setCell ⟨B,0,none⟩ (.string ⟨r.toArray⟩)=W5 at J5 c5 f5 ⊢;obtain ⟨fn,tmps,assign,body,hy,hR⟩:=HY.out pre (x++[10]) W5 ⟨r.toArray⟩ J5 HPx.out c5 f5;have C0:=Lib.hid hS0.1;clear J5 f5 hS0 c5
    gi_wp2
    refine hR.mono ?_;rintro e W6 (⟨rfl,J6,c6,f6⟩|⟨rfl,L6⟩);rotate_left
    ·have HL6:=Lib.hid L6;clear L6
     gi_wp2
     refine bodyPost_ret (results_none rfl _ _ _) rfl ?_;exact ⟨⟨_,rfl⟩, .inr HL6.out⟩
    have H6:=Lib.hid (And.intro J6 (And.intro c6 f6));clear J6 f6 c6
    gi_wp2
    go_roundw;case rel=>exact ⟨pre++[(x++[10])],⟨r.toArray⟩,HLn.out,HSz.out.1,⟨H6.out.2.1,H6.out.2.2⟩,H6.out.1⟩
    case measure=>rw[H6.out.2.1,c0w.out];exact HSz.out.2
   ·have hix:Lib.indexByte s.data.toList ((10:Int).toNat.toUInt8)= -1:=idx_none _ h10;have Hlines:Hid (linesS s.data.toList=[s.data.toList]):=Lib.hid (by
     cases hl:s.data.toList with
     | nil=>exact absurd (by rw[<-hz.out,hl];rfl) he
     | cons c q=>exact lines_last c q (by rw[<-hl];exact h10))
    have hIB:=Tryz.strings_IndexByte s 10;rw[hix] at hIB;have HIB:=Lib.hid hIB;have HLn:Hid (ls=pre++[s.data.toList]++linesS (⟨#[]⟩:ByteArray).data.toList):=Lib.hid (by rw[HL.out,Hlines.out];simp[linesS]);have HPx:Hid ((pre++[s.data.toList]) <+: ls):=Lib.hid ⟨linesS (⟨#[]⟩:ByteArray).data.toList,HLn.out.symm⟩;have HSz:Hid ((((⟨#[]⟩:ByteArray).size:Nat):Int)<=1000000/\(⟨#[]⟩:ByteArray).size<s.size):=Lib.hid (by
     have e:(⟨#[]⟩:ByteArray).size=0:=rfl;rw[e];omega)
    have c0w:=Lib.hid c0;have HX:Hid (∃fn tmps assign body,(Instr.yield l #[.string s]).run Tryz.prog (wr.setCell ⟨B,0,none⟩ (.string ⟨#[]⟩))= .ok (.round l fn tmps assign body) (wr.setCell ⟨B,0,none⟩ (.string ⟨#[]⟩))/\RoundIn Fence.wide 0 Tryz.prog l fn tmps assign body (wr.setCell ⟨B,0,none⟩ (.string ⟨#[]⟩)) λe W'=>
      (e= .returned (.bool true)/\J (pre++[s.data.toList]) W'/\W'.cell? ⟨B,0,none⟩=some (.string ⟨#[]⟩)/\W'.frozen? ⟨B,0,none⟩=false)\/(e= .returned (.bool false)/\L W')):=Lib.hid (by
     have hss0:(⟨s.data.toList.toArray⟩:ByteArray)=s:=by simp
     have:=HY.out pre s.data.toList (wr.setCell ⟨B,0,none⟩ (.string ⟨#[]⟩)) ⟨#[]⟩ (HJ.out.1 _ _ _ hJJ.out) HPx.out (World.cell?_setCell_same' _ _ _ (by rw[c0];rfl)) (by rw[World.frozen?_setCell];exact f0);rw[hss0] at this;exact this)
    obtain ⟨fn,tmps,assign,body,hy,hR⟩:=HX.out;clear h10 hix hIB he HX
    gi_wp2_with (refine ⟨trivial,?_⟩;gi_at_call 31;refine (callsIn_wide.2 (HIB.out _)).mono ?_;rintro e w1 ⟨rfl,rfl⟩)
    refine hR.mono ?_;rintro e W6 (⟨rfl,J6,c6,f6⟩|⟨rfl,L6⟩);rotate_left
    ·have HL6:=Lib.hid L6;clear L6
     gi_wp2
     refine bodyPost_ret (results_none rfl _ _ _) rfl ?_;exact ⟨⟨_,rfl⟩, .inr HL6.out⟩
    have H6:=Lib.hid (And.intro J6 (And.intro c6 f6));clear J6 f6 c6
    gi_wp2
    go_roundw;case rel=>exact ⟨pre++[s.data.toList],⟨#[]⟩,HLn.out,HSz.out.1,⟨H6.out.2.1,H6.out.2.2⟩,H6.out.1⟩
    case measure=>rw[H6.out.2.1,c0w.out];exact HSz.out.2
theorem lines_new (t:ByteArray) (w:World):Calls Tryz.prog 17 #[.string t] w λe w'=>e= .returned (.func (.func 30) #[] #[.pointer (some ⟨w.heap.size,0,none⟩)])/\w'=w.alloc (.cells #[.string t] 9):=by
 go_enter Tryz.func17,Tryz.ntmps17;go_wp2;go_ret;exact ⟨rfl,rfl⟩
def LnPost (I:List (List UInt8)->World->Prop) (Ir:World->Prop) (B D:Nat) (xs:List (List UInt8)) (W:World):Exit->Act->World->Prop
 | .normal,_,W'=>I xs W'/\W'.heap[D]?=W.heap[D]?/\W'.heap[D+1]?=W.heap[D+1]?/\W'.cell? ⟨B,0,none⟩=W.cell? ⟨B,0,none⟩/\W'.frozen? ⟨B,0,none⟩=W.frozen? ⟨B,0,none⟩
 | .ret,_,W'=>Ir W'/\W'.heap[D]?=W.heap[D]?/\W'.heap[D+1]?=W.heap[D+1]?
 | _,_,_=>False
theorem cells_put {W:World} {k:Nat} {a:Addr} (o:Obj) (h:a.block≠k):(W.putObj k o).cell? a=W.cell? a/\(W.putObj k o).frozen? a=W.frozen? a:=
 ⟨World.cell?_of_block (World.putObj_heap_other h),World.frozen?_of_block (World.putObj_heap_other h)⟩
theorem wp_range_lines {p:Tmp} {assign body:Code} {Q:Exit->Act->World->Prop} {a:Act} {w:World} {g:Operand} {B:Nat} {t:ByteArray}
  (hg:a.eval g= .func (.func 30) #[] #[.pointer (some ⟨B,0,none⟩)]) (hc:w.cell? ⟨B,0,none⟩=some (.string t)) (hf:w.frozen? ⟨B,0,none⟩=false) (hB:B<w.heap.size) (hts:(t.size:Int)<=1000000)
  (I:List (List UInt8)->World->Prop) (Ir:World->Prop) (hIr:∀W k o',Ir W->(k=w.heap.size\/k=w.heap.size+1)->Ir (W.putObj k o')) (hIs:∀pre W v,I pre W->I pre (W.setCell ⟨B,0,none⟩ v)) (hId:∀pre W,I pre W->I pre W.drew)
  (hIp:∀pre W k o',I pre W->(k=w.heap.size\/k=w.heap.size+1)->I pre (W.putObj k o')) (h0:∀o o',I [] ((w.alloc o).alloc o')) (a1:List UInt8->Act)
  (hassign:∀l x W K,K (a1 x) W->assign.wpIn (Fence.wide.inRound l) 0 Tryz.prog (Exit.then K (λ_ _ _=>False)) {tmps:=a.tmps.setIfInBounds p (.string ⟨x.toArray⟩),defers:=[]} W)
  (hbody:∀l pre x W s,I pre W->(pre++[x]) <+: linesS t.data.toList->W.cell? ⟨B,0,none⟩=some (.string s)->W.frozen? ⟨B,0,none⟩=false->body.wpIn (Fence.wide.inRound l) 0 Tryz.prog (LnPost I Ir B w.heap.size (pre++[x]) W) (a1 x) W)
  (hret:∀W,Ir W->W.heap[w.heap.size]?=some (.deferred (some []))->Q .ret {a with defers:={target:= .collected w.heap.size,args:= #[]}::a.defers} W)
  (hdone:∀W,I (linesS t.data.toList) W->W.heap[w.heap.size]?=some (.deferred (some []))->Q .normal {a with defers:={target:= .collected w.heap.size,args:= #[]}::a.defers} W) :
  (Code.rangeFunc g #[p] assign body).wpIn Fence.wide 2 Tryz.prog Q a w:=by
 refine wpIn_rangeFunc ?_;intro fn hfn;obtain ⟨rec,hrec⟩:∃rec:LoopState->Option Code->Loop,rec=λst pe=>{state:=st,pending:=pe,fn,tmps:=a.tmps,params:= #[p],assign,body,defers:=w.heap.size}:=⟨_,rfl⟩
 obtain ⟨W1,hW1⟩:∃W1,(w.alloc (.deferred (some []))).alloc (.loop (rec .ready none))=W1:=⟨_,rfl⟩
 have gW:Gr w W1:=by rw[<-hW1];exact Gr.alloc (Gr.alloc (Gr.refl w) _) _
 have hL1:W1.heap[w.heap.size+1]?=some (.loop (rec .ready none)):=by
  have:=World.alloc_heap_new (w.alloc (.deferred (some []))) (.loop (rec .ready none))
  rwa [World.size_alloc,hW1] at this
 have hK1:W1.heap[w.heap.size]?=some (.deferred (some [])):=by
  rw[<-hW1];exact (Below.heap_alloc _ _ _ (by simp)).trans (World.alloc_heap_new w _)
 have hI1:I [] W1:=by rw[<-hW1];exact h0 _ _
 refine ⟨w.heap.size+1,[{target:= .collected w.heap.size,args:= #[]}],W1,{target:= .fn (.func 30) #[.pointer (some ⟨B,0,none⟩)],args:= #[.func (.yield (w.heap.size+1)) #[] #[]]},W1,30,
  #[.func (.yield (w.heap.size+1)) #[] #[], .pointer (some ⟨B,0,none⟩)],W1,?_,?_,λ_ _=>trivial,?_,λh=>(by cases h),?_⟩
 ·rw[<-hW1,hrec];exact run_enterLoop_outer _ _ _ _ _
 ·simp only[resolve,hg];simp[go_sem]
 ·simp[invoke,go_sem,enters_of Tryz.func30 (by kernel_rfl) rfl]
 ·have neB:∀k,k=w.heap.size\/k=w.heap.size+1->(⟨B,0,none⟩:Addr).block≠k:=λk h=>by show B≠k;omega
  refine (lines_walk (w.heap.size+1) B (linesS t.data.toList) (λpre W=>I pre W/\W.heap[w.heap.size+1]?=some (.loop (rec .ready none))/\W.heap[w.heap.size]?=some (.deferred (some [])))
   (λW=>Ir W/\W.heap[w.heap.size+1]?=some (.loop (rec .done (some .ret)))/\W.heap[w.heap.size]?=some (.deferred (some [])))
   (λpre W v h=>⟨hIs _ _ _ h.1,(Below.heap_setCell W _ v _ (by show w.heap.size+1≠B;omega)).trans h.2.1,(Below.heap_setCell W _ v _ (by show w.heap.size≠B;omega)).trans h.2.2⟩) (λpre W h=>⟨hId _ _ h.1,h.2⟩) ?_ t rfl hts W1
   ((bc gW hB hc)) ((bf gW hB hf)) ⟨hI1,hL1,hK1⟩).mono ?_
  ·rintro pre x W s ⟨hi,hl,hk⟩ hpx hcs hfs;have hlt:w.heap.size+1<W.heap.size:=(Array.getElem?_eq_some_iff.1 hl).1;have hy:=run_yield (P:=Tryz.prog) (args:= #[.string ⟨x.toArray⟩]) hl (by rw[hrec];rfl);rw[hrec] at hy;have hy2:(Instr.yield (w.heap.size+1) #[.string ⟨x.toArray⟩]).run Tryz.prog W= .ok (.round (w.heap.size+1) fn (a.tmps.setIfInBounds p (.string ⟨x.toArray⟩)) assign body) W:=by rw[hy];simp
   refine ⟨fn,_,assign,body,hy2,roundIn_of_wpIn trivial (hassign _ x W _ ?_)⟩;refine ⟨_,run_beginRound hl (by rw[hrec]),?_⟩;have hl2:(W.putObj (w.heap.size+1) (.loop {rec .ready none with state:= .busy})).heap[w.heap.size+1]?=some (.loop {rec .ready none with state:= .busy}):=World.putObj_heap_same hlt;have hk2:(W.putObj (w.heap.size+1) (.loop {rec .ready none with state:= .busy})).heap[w.heap.size]?=some (.deferred (some [])):=(World.putObj_heap_other (by omega)).trans hk;obtain ⟨c1,f1⟩:=cells_put (W:=W) (a:=⟨B,0,none⟩) (.loop {rec .ready none with state:= .busy}) (neB _ (.inr rfl));refine wpIn_mono (hbody _ pre x _ s (hIp _ _ _ _ hi (.inr rfl)) hpx (c1.trans hcs) (f1.trans hfs)) ?_;rintro e a3 W3 hp;cases e with
   | normal=>
    obtain ⟨hi3,hd3,hl3,hc3,hf3⟩:=hp;have hl3':=hl3.trans hl2;have:=run_endRound (P:=Tryz.prog) none hl3';obtain ⟨c2,f2⟩:=cells_put (W:=W3) (a:=⟨B,0,none⟩) (.loop (rec .ready none)) (neB _ (.inr rfl));refine ⟨_,_,this, .inl ⟨rfl,⟨?_,?_,?_⟩,?_,?_⟩⟩
    ·exact hIp _ _ _ _ hi3 (.inr rfl)
    ·rw[hrec];exact World.putObj_heap_same (Array.getElem?_eq_some_iff.1 hl3').1
    ·exact (World.putObj_heap_other (by omega)).trans (hd3.trans hk2)
    ·rw[hrec] at c2 ⊢;exact c2.trans (hc3.trans (c1.trans hcs))
    ·rw[hrec] at f2 ⊢;exact f2.trans (hf3.trans (f1.trans hfs))
   | ret=>
    obtain ⟨hi3,hd3,hl3⟩:=hp;have hl3':=hl3.trans hl2;have:=run_endRound (P:=Tryz.prog) (some .ret) hl3';refine ⟨_,_,this, .inr ⟨rfl,?_,?_,?_⟩⟩
    ·exact hIr _ _ _ hi3 (.inr rfl)
    ·rw[hrec];exact World.putObj_heap_same (Array.getElem?_eq_some_iff.1 hl3').1
    ·exact (World.putObj_heap_other (by omega)).trans (hd3.trans hk2)
   | exit id=>exact hp.elim
   | goto t=>exact hp.elim
   | panic ch=>exact hp.elim
   | outgrown=>exact hp.elim
  ·rintro e W2 ⟨⟨v,rfl⟩,⟨hi,hl,hk⟩|⟨hi,hl,hk⟩⟩;rotate_left
   ·exact ⟨some .ret,_,by have:=run_endLoop (P:=Tryz.prog) hl (by rw[hrec];simp);rw[hrec] at this;exact this,wpIn_ret (hret _ (hIr _ _ _ hi (.inr rfl)) ((World.putObj_heap_other (by omega)).trans hk))⟩
   exact ⟨none,_,by have:=run_endLoop (P:=Tryz.prog) hl (by rw[hrec];simp);rw[hrec] at this;exact this,hdone _ (hIp _ _ _ _ hi (.inr rfl)) ((World.putObj_heap_other (by omega)).trans hk)⟩
end
section
open Go.RowKit Go.Shelf
attribute [local go_sem] Oper.semAt_some
theorem skip_yes {T:ByteArray} (h:skipS T.data.toList=true):T=⟨#[]⟩\/∃h0:(0:Int)<(T.size:Int),T.toList.isEmpty=false/\(T.toList==[])=false/\(((T[0]'(by omega)).toNat:Int)==35)=true:=by
 rcases Nat.eq_zero_or_pos T.size with e|h0
 ·left;apply ByteArray.ext;apply Array.eq_empty_of_size_eq_zero;exact e
 ·right;have hl:0<T.data.toList.length:=by simpa using h0
  have hc:T.data.toList=T[0]::T.data.toList.drop 1:=by
   have:=List.drop_eq_getElem_cons hl
   rwa [List.drop_zero] at this
  have hb:(T[0]==35)=true:=by rw[hc] at h;exact h
  have a1:T.toList.isEmpty=false:=by rw[toList_data_ru];rw[List.isEmpty_eq_false_iff];exact ne_nil (by omega)
  have a3:(T.toList==[])=false:=by rw[toList_data_ru,beq_eq_false_iff_ne];exact ne_nil (by omega)
  have h3:T[0]=35:=by simpa using hb
  refine ⟨by omega,a1,a3,?_⟩;rw[h3];rfl
theorem skip_no {T:ByteArray} (h:skipS T.data.toList=false):∃h0:(0:Int)<(T.size:Int),T.toList.isEmpty=false/\(T.toList==[])=false/\(((T[0]'(by omega)).toNat:Int)==35)=false:=by
 rcases Nat.eq_zero_or_pos T.size with e|h0
 ·exfalso;have:T.data.toList=[]:=List.eq_nil_of_length_eq_zero (by simpa using e);rw[this] at h;cases h
 ·have hl:0<T.data.toList.length:=by simpa using h0
  have hc:T.data.toList=T[0]::T.data.toList.drop 1:=by
   have:=List.drop_eq_getElem_cons hl
   rwa [List.drop_zero] at this
  have hb:(T[0]==35)=false:=by rw[hc] at h;exact h
  have a1:T.toList.isEmpty=false:=by rw[toList_data_ru];rw[List.isEmpty_eq_false_iff];exact ne_nil (by omega)
  have a3:(T.toList==[])=false:=by rw[toList_data_ru,beq_eq_false_iff_ne];exact ne_nil (by omega)
  refine ⟨by omega,a1,a3,?_⟩;rw[beq_eq_false_iff_ne] at hb ⊢;intro e;apply hb;have:T[0].toNat=35:=by omega
  exact UInt8.toNat_inj.1 this
theorem lines_mem:∀{l x:List UInt8},x∈linesS l->x.length<=l.length
 | [],x,h=>by cases h
 | c::r,x,h=>by
  unfold linesS at h;cases hc:(c==10)
  ·rw[hc,cond_false] at h;cases hr:linesS r with
   | nil=>
    rw[hr] at h;rw[List.mem_singleton.1 h];simp
   | cons p m=>
    rw[hr] at h;rcases List.mem_cons.1 h with h|h
    ·have:=lines_mem (l:=r) (x:=p) (by rw[hr];exact List.mem_cons_self);rw[h];simpa using this
    ·have:=lines_mem (l:=r) (x:=x) (by rw[hr];exact List.mem_cons_of_mem _ h);simp;omega
  ·rw[hc,cond_true] at h;rcases List.mem_cons.1 h with h|h
   ·rw[h];simp
   ·have:=lines_mem (l:=r) (x:=x) h;simp;omega
theorem sum_pre {l m:List (List UInt8)} (h:l <+: m):sumL l<=sumL m:=by
 obtain ⟨r,e⟩:=h;rw[<-e];simp[sumL]
theorem sum_lines {t:List UInt8} {pre:List (List UInt8)} (h:pre <+: linesS t):sumL (pre.map trimS)<=t.length+1:=by
 rw[<-part_sum 10 t];refine Nat.le_trans (sum_pre (h.map trimS)) (sum_pre ?_);rcases lines_parts t with e|e
 ·rw[e];exact List.prefix_refl _
 ·rw[e];exact List.prefix_append _ _
def Mt (l:List Sc) (m:List Ru) (st:St):Prop:=l.map (λs=>SR.mk s.pat.data.toList s.ar)=st.S/\m.map (λs=>RR.mk s.pat.data.toList s.kind s.xff)=st.R
theorem run_snoc (l:List (List UInt8)) (x:List UInt8) (st:St):runS (l++[x]) st=match runS l st with
  | none=>none
  | some s=>bif skipS x then some s else addS s (lineS x):=by
 rw[run_append];cases runS l st with
 | none=>rfl
 | some s=>
  show runS [x] s=_;rw[runS];cases skipS x
  ·simp only[cond_false];cases addS s (lineS x)<;>rfl
  ·rfl
theorem run_stop {l m:List (List UInt8)} {st:St} (h:runS l st=none) (hp:l <+: m):runS m st=none:=by
 obtain ⟨r,e⟩:=hp;rw[<-e,run_append,h];rfl
def RetPa (w:World) (x:Option St) (e:Ending) (w':World):Prop:=match x with
 | none=>e= .returned (.tuple #[.pointer none, .int .i64 15])/\Gr w w'
 | some st=>∃R B0 l m v1 v2,e= .returned (.tuple #[.pointer (some ⟨R,0,none⟩), .int .i64 0])/\RpM w R B0 w' l m v1 v2/\Mt l m st
structure PaI (w:World) (pre:List (List UInt8)) (W:World):Prop where
 ex:∃l m v1 v2 st,runS (pre.map trimS) ⟨[],[]⟩=some st/\Mt l m st/\RpM w (w.heap.size+1+1) (w.heap.size+7) W l m v1 v2
 rp:W.cell? ⟨w.heap.size+1+1+1,0,none⟩=some (.pointer (some ⟨w.heap.size+1+1,0,none⟩))
 r0:W.cell? ⟨w.heap.size,0,none⟩=some (.pointer none)/\W.frozen? ⟨w.heap.size,0,none⟩=false
 r1:W.cell? ⟨w.heap.size+1,0,none⟩=some (.int .i64 0)/\W.frozen? ⟨w.heap.size+1,0,none⟩=false
 ml:Ml W
theorem PaI.keep {w W W':World} {pre pre':List (List UInt8)} (h:PaI w pre W) (h0:W'.heap[w.heap.size]?=W.heap[w.heap.size]?) (h1:W'.heap[w.heap.size+1]?=W.heap[w.heap.size+1]?) (h3:W'.heap[w.heap.size+1+1+1]?=W.heap[w.heap.size+1+1+1]?) (hm:Ml W')
  (ex:∃l m v1 v2 st,runS (pre'.map trimS) ⟨[],[]⟩=some st/\Mt l m st/\RpM w (w.heap.size+1+1) (w.heap.size+7) W' l m v1 v2):PaI w pre' W':=
 ⟨ex,(World.cell?_of_block (a:=⟨w.heap.size+1+1+1,0,none⟩) h3).trans h.rp,⟨(World.cell?_of_block (a:=⟨w.heap.size,0,none⟩) h0).trans h.r0.1,(World.frozen?_of_block (a:=⟨w.heap.size,0,none⟩) h0).trans h.r0.2⟩,⟨(World.cell?_of_block (a:=⟨w.heap.size+1,0,none⟩) h1).trans h.r1.1,(World.frozen?_of_block (a:=⟨w.heap.size+1,0,none⟩) h1).trans h.r1.2⟩,hm⟩
theorem PaI.lt {w W:World} {pre:List (List UInt8)} (h:PaI w pre W):w.heap.size+7<=W.heap.size:=by
 obtain ⟨l,m,v1,v2,st, -, -,hR⟩:=h.ex;exact hR.sz
theorem PaI.gr {w W W':World} {pre:List (List UInt8)} (h:PaI w pre W) (g:Gr W W'):PaI w pre W':=by
 have hz:=h.lt;obtain ⟨l,m,v1,v2,st,e,e2,hR⟩:=h.ex;exact h.keep (Below.block g _ (by omega)) (Below.block g _ (by omega)) (Below.block g _ (by omega)) (h.ml.gr g) ⟨l,m,v1,v2,st,e,e2,Two.gr' hR g⟩
theorem PaI.other {w W W':World} {pre:List (List UInt8)} {k:Nat} (h:PaI w pre W) (hm:Ml w) (g:W.grownBy W' (some k)) (h4:w.heap.size+4<=k) (h7:k<w.heap.size+7):PaI w pre W':=by
 have hz:=h.lt;have ne:∀j,j<w.heap.size+4->some j≠some k:=λj hj e=>by injection e with e;omega
 obtain ⟨l,m,v1,v2,st,e,e2,hR⟩:=h.ex;have hR':=Two.other hR g (by omega) (by omega) h7;exact h.keep (g.block _ (by omega) (ne _ (by omega))) (g.block _ (by omega) (ne _ (by omega))) (g.block _ (by omega) (ne _ (by omega))) (hm.gr hR'.gr) ⟨l,m,v1,v2,st,e,e2,hR'⟩
structure PaE (w:World) (W:World):Prop where
 gr:Gr w W
 sz:w.heap.size+7<=W.heap.size
 r0:W.cell? ⟨w.heap.size,0,none⟩=some (.pointer none)
 r1:W.cell? ⟨w.heap.size+1,0,none⟩=some (.int .i64 15)
theorem PaE.other {w W W':World} {k:Nat} (h:PaE w W) (g:W.grownBy W' (some k)) (h4:w.heap.size+4<=k):PaE w W':=by
 have hz:=h.sz;have ne:∀j,j<w.heap.size+4->some j≠some k:=λj hj e=>by injection e with e;omega
 exact ⟨Below.grown h.gr g h.gr.size (λj e=>by cases e;omega),Nat.le_trans hz g.size,(World.cell?_of_block (a:=⟨w.heap.size,0,none⟩) (g.block w.heap.size (by omega) (ne _ (by omega)))).trans h.r0,(World.cell?_of_block (a:=⟨w.heap.size+1,0,none⟩) (g.block (w.heap.size+1) (by omega) (ne _ (by omega)))).trans h.r1⟩
theorem parse_any (t:ByteArray) (ht:(t.size:Int)<=300) (w:World) (hm:Ml w):Calls Tryz.prog 6 #[.string t] w (RetPa w (parseS t.data.toList)):=by
 refine (callsIn_wide (n:=2)).1 ?_;refine callsIn_of_wp_marks Tryz.func6 rfl trivial ?_ rfl;simp only[Tryz.ntmps6,List.size_toArray,List.length_cons,List.length_nil,Nat.reduceAdd,Nat.reduceSub,Array.replicate_succ,Array.replicate_zero,List.push_toArray,List.append_toArray,List.nil_append,List.cons_append];have HM:=Lib.hid hm;have HW:=Lib.hid ht;clear hm
 gi_wp2_with (refine ⟨trivial,?_⟩;gi_at_call 17;refine (callsIn_wide.2 (lines_new _ _)).mono ?_;rintro e w1 ⟨rfl,rfl⟩)
 obtain ⟨w0,hw0⟩:∃w0,w0=(((((w.alloc (.cells #[.pointer none] 23)).alloc (.cells #[.int .i64 0] 24)).alloc (.cells #[.slice none 0 0, .slice none 0 0] 62)).alloc (.cells #[.pointer (some ⟨w.heap.size+1+1,0,none⟩)] 23)).alloc (.cells #[.string t] 9)):=⟨_,rfl⟩
 have hz0:w0.heap.size=w.heap.size+5:=by rw[hw0];simp
 have g0:Gr w w0:=by rw[hw0];exact ((((Gr.refl w).alloc _).alloc _).alloc _).alloc _ |>.alloc _
 have cB:w0.cell? ⟨w.heap.size+1+1+1+1,0,none⟩=some (.string t):=by rw[hw0];go_simp
 have fB:w0.frozen? ⟨w.heap.size+1+1+1+1,0,none⟩=false:=by rw[hw0];go_simp
 have k0:w0.cell? ⟨w.heap.size,0,none⟩=some (.pointer none):=by rw[hw0];go_simp
 have k1:w0.cell? ⟨w.heap.size+1,0,none⟩=some (.int .i64 0):=by rw[hw0];go_simp
 have k2:w0.cell? ⟨w.heap.size+1+1,0,none⟩=some (.slice none 0 0):=by rw[hw0];go_simp
 have k3:w0.cell? ⟨w.heap.size+1+1,1,none⟩=some (.slice none 0 0):=by rw[hw0];go_simp
 have k4:w0.cell? ⟨w.heap.size+1+1+1,0,none⟩=some (.pointer (some ⟨w.heap.size+1+1,0,none⟩)):=by rw[hw0];go_simp
 have f0:w0.frozen? ⟨w.heap.size,0,none⟩=false:=by rw[hw0];go_simp
 have f1:w0.frozen? ⟨w.heap.size+1,0,none⟩=false:=by rw[hw0];go_simp
 have f2:w0.frozen? ⟨w.heap.size+1+1,0,none⟩=false:=by rw[hw0];go_simp
 have f3:w0.frozen? ⟨w.heap.size+1+1,1,none⟩=false:=by rw[hw0];go_simp
 rw[<-hw0];have hbs:w0.heap.size=w.heap.size+5:=hz0;have HSt:∀o o',PaI w [] ((w0.alloc o).alloc o'):=λo o'=>by
  have g2:Gr w0 ((w0.alloc o).alloc o'):=Gr.alloc (Gr.alloc (Gr.refl w0) _) _;have cc:∀b j,b<w.heap.size+5->((w0.alloc o).alloc o').cell? ⟨b,j,none⟩=w0.cell? ⟨b,j,none⟩:=λb j hb=>Below.cell g2 (p:=⟨b,j,none⟩) (by show b<_;omega);have ff:∀b j,b<w.heap.size+5->((w0.alloc o).alloc o').frozen? ⟨b,j,none⟩=w0.frozen? ⟨b,j,none⟩:=λb j hb=>Below.frozen g2 (p:=⟨b,j,none⟩) (by show b<_;omega);refine ⟨⟨[],[], .slice none 0 0, .slice none 0 0,⟨[],[]⟩,rfl,⟨rfl,rfl⟩,Two.nil (F:=FP [] []) (g0.trans g2) (by omega) (by omega) (by simp;omega) ((cc _ _ (by omega)).trans k2) ((cc _ _ (by omega)).trans k3) ((ff _ _ (by omega)).trans f2) ((ff _ _ (by omega)).trans f3) (λW=>(show FP [] [] W from ⟨λs hs=>absurd hs List.not_mem_nil,λs hs=>absurd hs List.not_mem_nil⟩))⟩,(cc _ _ (by omega)).trans k4,⟨(cc _ _ (by omega)).trans k0,(ff _ _ (by omega)).trans f0⟩,⟨(cc _ _ (by omega)).trans k1,(ff _ _ (by omega)).trans f1⟩,HM.out.gr (g0.trans g2)⟩
 refine wp_range_lines (B:=w.heap.size+1+1+1+1) (t:=t) rfl cB fB (by omega) (by omega) (PaI w) (λW=>PaE w W/\Hid (parseS t.data.toList=none)) (λW k o' hI hk=>⟨hI.1.other (grownBy_putObj' W k o') (by omega),hI.2⟩)
  (λpre W v hI=>hI.other (k:=w.heap.size+1+1+1+1) HM.out ⟨rfl,rfl,rfl,by simp,λk hk hne=>Below.heap_setCell _ _ _ k (λe=>hne (by rw[e]))⟩ (by omega) (by omega))
  (λpre W hI=>hI.gr (Gr.drew (Gr.refl W)))
  (λpre W k o' hI hk=>hI.other HM.out (grownBy_putObj' W k o') (by omega) (by omega)) HSt
  (λx=>⟨#[.string t,undef, .pointer (some ⟨w.heap.size,0,none⟩), .pointer (some ⟨w.heap.size+1,0,none⟩), .pointer (some ⟨w.heap.size+1+1+1,0,none⟩), .string ⟨x.toArray⟩,undef, .agg #[.slice none 0 0, .slice none 0 0], .pointer (some ⟨w.heap.size+1+1,0,none⟩), .string t, .func (.func 30) #[] #[.pointer (some ⟨w.heap.size+1+1+1+1,0,none⟩)], .string ⟨x.toArray⟩,undef,undef,undef,undef,undef,undef,undef,undef,undef,undef,undef,undef,undef,undef,undef,undef,undef,undef,undef,undef,undef,undef,undef,undef,undef,undef,undef,undef,undef,undef,undef,undef],[]⟩) ?assign ?body ?ret ?done
 case assign=>
  clear HSt k0 k1 k2 k3 k4 f0 f1 f2 f3 cB fB hw0;intro l x W K hK
  gi_wp2
  exact hK
 case body=>
  clear HSt k0 k1 k2 k3 k4 f0 f1 f2 f3 cB fB hw0;intro l pre x W s hI hpx hcs hfs;obtain ⟨T,hT⟩:∃T:ByteArray,T=⟨(trimS x).toArray⟩:=⟨_,rfl⟩
  have hTl:T.data.toList=trimS x:=by rw[hT]
  have HTS:=Tryz.strings_TrimSuffix ⟨x.toArray⟩ ⟨#[10]⟩;have eT:(⟨(Lib.trimSuffix (⟨x.toArray⟩:ByteArray).data.toList (⟨#[10]⟩:ByteArray).data.toList).toArray⟩:ByteArray)=T:=by rw[hT];rfl
  rw[eT] at HTS;have HI:=Lib.hid hI;have hz:=hI.lt;have hmem:x∈linesS t.data.toList:=hpx.subset (by simp);have hxl:x.length<=t.size:=lines_mem hmem;have HTT:=Lib.hid (λw=>(HTS w (by show x.toArray.size<=_;rw[List.size_toArray];omega)).mono (R':=λe w'=>e= .returned (.string T)/\w=w') λe w' h=>⟨h.1,h.2.symm⟩);have HB:=Lib.hid (And.intro hcs hfs);clear HTS eT hI hcs hfs hT;cases hsk:skipS (trimS x);rotate_left
  ·have HP:Hid (PaI w (pre++[x]) W):=Lib.hid (by
    obtain ⟨r,m,v1,v2,st,e,e2,hR⟩:=HI.out.ex;exact HI.out.keep rfl rfl rfl HI.out.ml ⟨r,m,v1,v2,st,by rw[List.map_append,List.map_singleton,run_snoc,e,hsk];rfl,e2,hR⟩)
   rw[<-hTl] at hsk;clear hTl;rcases skip_yes hsk with rfl|⟨t0,t1,t2,t3⟩
   ·clear hsk
    gi_wp2_with (refine ⟨trivial,rfl,?_⟩;gi_at_call 18;refine (CallsIn.inRound l (callsIn_wide.2 (HTT.out _))).mono ?_;rintro e w1 ⟨rfl,rfl⟩)
    exact ⟨HP.out,rfl,rfl,rfl,rfl⟩
   ·clear hsk
    gi_wp2_with (refine ⟨trivial,rfl,?_⟩;gi_at_call 18;refine (CallsIn.inRound l (callsIn_wide.2 (HTT.out _))).mono ?_;rintro e w1 ⟨rfl,rfl⟩)
    exact ⟨HP.out,rfl,rfl,rfl,rfl⟩
  obtain ⟨rows,m,v1,v2,st,e,e2,hR⟩:=HI.out.ex;have hrs:Hid (runS ((pre++[x]).map trimS) ⟨[],[]⟩=addS st (lineS T.data.toList)):=Lib.hid (by rw[List.map_append,List.map_singleton,run_snoc,e,hsk,hTl];rfl);rw[<-hTl] at hsk;obtain ⟨t0,t1,t2,t3⟩:=skip_no hsk;have hle:rows.length<=1000/\m.length<=1000:=by
   have h1:=run_len _ _ _ e;have h2:rows.length=st.S.length:=by rw[<-e2.1,List.length_map]
   have h3:m.length=st.R.length:=by rw[<-e2.2,List.length_map]
   have h4:=sum_lines ((List.prefix_append pre [x]).trans hpx);have h5:t.data.toList.length=t.size:=by simp
   simp at h1;omega
  have hTs:(T.size:Int)<=300:=by
   have h1:T.size=(trimS x).length:=by rw[<-hTl];simp
   have h2:(trimS x).length<=x.length:=Lib.trimSuffix_le x [10];omega
  have hLN:=line_any hR T hTs hle.1 hle.2 HI.out.ml;have HR:=Lib.hid hR;have HE:=Lib.hid e2;have c4:=HI.out.rp;have HPX:Hid ((pre++[x]).map trimS <+: (linesS t.data.toList).map trimS):=Lib.hid (hpx.map trimS);clear hsk hTl e e2 hle hTs;cases hq:lineS T.data.toList with
  | bad=>
   rw[hq] at hLN hrs;have HLN:=Lib.hid hLN;clear hLN hq
   gi_wp2_with (first|(refine ⟨trivial,rfl,?_⟩;gi_at_call 18;refine (CallsIn.inRound l (callsIn_wide.2 (HTT.out _))).mono ?_;rintro e w1 ⟨rfl,rfl⟩)|(refine ⟨trivial,rfl,?_⟩;gi_at_call 19;refine (CallsIn.inRound l (callsIn_wide.2 HLN.out)).mono ?_;rintro e w2 ⟨rfl,g2⟩;have G2:=Lib.hid g2;have p0:=bc g2 (by show w.heap.size<W.heap.size;omega) HI.out.r0.1;have p1:=bf g2 (by show w.heap.size<W.heap.size;omega) HI.out.r0.2;have p2:=bc g2 (by show w.heap.size+1<W.heap.size;omega) HI.out.r1.1;have p3:=bf g2 (by show w.heap.size+1<W.heap.size;omega) HI.out.r1.2;clear g2))
   have HNo:Hid (parseS t.data.toList=none):=Lib.hid (by
    rw[<-run_lines];exact run_stop (hrs.out.trans rfl) HPX.out)
   have g2:=G2.out;have hz2:W.heap.size<=w2.heap.size:=g2.size;have gw:Gr w w2:=(Two.gr HR.out).trans g2;have st:∀k,w.heap.size+2<=k->k<W.heap.size->((w2.setCell ⟨w.heap.size,0,none⟩ (.pointer none)).setCell ⟨w.heap.size+1,0,none⟩ (.int .i64 15)).heap[k]?=W.heap[k]?:=λk h1 h2=>
    (Below.heap_setCell _ ⟨w.heap.size+1,0,none⟩ _ k (by show k≠w.heap.size+1;omega)).trans ((Below.heap_setCell w2 ⟨w.heap.size,0,none⟩ _ k (by show k≠w.heap.size;omega)).trans (Below.block g2 k h2))
   refine ⟨⟨⟨gq,by simp;omega,by go_simp,by go_simp⟩,HNo⟩,st _ (by omega) (by omega),st _ (by omega) (by omega)⟩
  | s v=>
   rw[hq] at hLN hrs;have HLN:=Lib.hid hLN;clear hLN hq
   gi_wp2_with (first|(refine ⟨trivial,rfl,?_⟩;gi_at_call 18;refine (CallsIn.inRound l (callsIn_wide.2 (HTT.out _))).mono ?_;rintro e w1 ⟨rfl,rfl⟩)|(refine ⟨trivial,rfl,?_⟩;gi_at_call 19;refine (CallsIn.inRound l (callsIn_wide.2 HLN.out)).mono ?_;rintro e w2 ⟨rfl,s1,v',hp⟩;have HPP:=Lib.hid hp;clear hp))
   obtain ⟨b1,b2,b3,b4⟩:=HPP.out;refine ⟨HI.out.keep (b4 _ (by omega) (by omega)) (b4 _ (by omega) (by omega)) (b4 _ (by omega) (by omega)) (HM.out.gr (Two.gr b3)) ⟨_,_,_,_,_,hrs.out.trans rfl,⟨by rw[List.map_append,HE.out.1,List.map_singleton,b1,b2],HE.out.2⟩,b3⟩,b4 _ (by omega) (by omega),b4 _ (by omega) (by omega),World.cell?_of_block (a:=⟨w.heap.size+1+1+1+1,0,none⟩) (b4 (w.heap.size+1+1+1+1) (by omega) (by omega)),World.frozen?_of_block (a:=⟨w.heap.size+1+1+1+1,0,none⟩) (b4 (w.heap.size+1+1+1+1) (by omega) (by omega))⟩
  | r v=>
   rw[hq] at hLN hrs;have HLN:=Lib.hid hLN;clear hLN hq
   gi_wp2_with (first|(refine ⟨trivial,rfl,?_⟩;gi_at_call 18;refine (CallsIn.inRound l (callsIn_wide.2 (HTT.out _))).mono ?_;rintro e w1 ⟨rfl,rfl⟩)|(refine ⟨trivial,rfl,?_⟩;gi_at_call 19;refine (CallsIn.inRound l (callsIn_wide.2 HLN.out)).mono ?_;rintro e w2 ⟨rfl,s1,v',hp⟩;have HPP:=Lib.hid hp;clear hp))
   obtain ⟨b1,b2,b5,b3,b4⟩:=HPP.out;refine ⟨HI.out.keep (b4 _ (by omega) (by omega)) (b4 _ (by omega) (by omega)) (b4 _ (by omega) (by omega)) (HM.out.gr (Two.gr b3)) ⟨_,_,_,_,_,hrs.out.trans rfl,⟨HE.out.1,by rw[List.map_append,HE.out.2,List.map_singleton,b1,b2,b5]⟩,b3⟩,b4 _ (by omega) (by omega),b4 _ (by omega) (by omega),World.cell?_of_block (a:=⟨w.heap.size+1+1+1+1,0,none⟩) (b4 (w.heap.size+1+1+1+1) (by omega) (by omega)),World.frozen?_of_block (a:=⟨w.heap.size+1+1+1+1,0,none⟩) (b4 (w.heap.size+1+1+1+1) (by omega) (by omega))⟩
 case ret=>
  clear HSt k0 k1 k2 k3 k4 f0 f1 f2 f3 cB fB hw0;intro W hI hK;obtain ⟨hE,HNo⟩:=hI;have hK2:W.heap[w.heap.size+5]?=some (.deferred (some [])):=by rw[<-hz0];exact hK
  refine ⟨by simp, .inl ⟨_,_,rfl,run_takeDeferred (by first|exact hK2|exact hK),?_⟩⟩;have hE2:=hE.other (grownBy_putObj' W w0.heap.size (.deferred none)) (by omega);have q0:=hE2.r0;have q1:=hE2.r1;rw[HNo.out];refine ⟨.tuple #[.pointer none, .int .i64 15],?_,rfl,hE2.gr⟩;simp[results,Tryz.results6,go_sem,q0,q1]
 case done=>
  clear HSt k0 k1 k2 k3 k4 f0 f1 f2 f3 cB fB hw0;intro W hI hK;have HI:=Lib.hid hI;have hz:=hI.lt;obtain ⟨rows,m,v1,v2,st,e,e2,hR⟩:=hI.ex;rw[run_lines] at e;have hfew:=parse_few e (by have:=HW.out;simp;omega);have hn1:rows.length=st.S.length:=by rw[<-e2.1,List.length_map]
  have hn2:m.length=st.R.length:=by rw[<-e2.2,List.length_map]
  obtain ⟨A,c,hv1⟩:=own_form hR.o1;obtain ⟨A2,c2,hv2⟩:=own_form hR.o2;subst hv1 hv2;have hl64:¬(64:Int)<(rows.length:Int):=by omega
  have hl65:¬(64:Int)<(m.length:Int):=by omega
  obtain ⟨k0,f0⟩:=hI.r0;obtain ⟨k1,f1⟩:=hI.r1;have k4:=hI.rp;have k2:=hR.x1;have k3:=hR.x2;have HR:=Lib.hid hR;have HE:=Lib.hid (And.intro e e2);have HK:=Lib.hid hK;clear hI e e2 hR hK hfew hn1 hn2
  gi_wp2
  have hK2:((W.setCell ⟨w.heap.size,0,none⟩ (.pointer (some ⟨w.heap.size+1+1,0,none⟩))).setCell ⟨w.heap.size+1,0,none⟩ (.int .i64 0)).heap[w.heap.size+5]?=some (.deferred (some [])):=
   (Below.heap_setCell _ ⟨w.heap.size+1,0,none⟩ _ (w.heap.size+5) (by show w.heap.size+5≠w.heap.size+1;omega)).trans ((Below.heap_setCell W ⟨w.heap.size,0,none⟩ _ (w.heap.size+5) (by show w.heap.size+5≠w.heap.size;omega)).trans (by rw[<-hz0];exact HK.out))
  refine ⟨by simp, .inl ⟨_,_,rfl,run_takeDeferred hK2,?_⟩⟩;obtain ⟨W5,hW5⟩:∃W5,W5=(W.setCell ⟨w.heap.size,0,none⟩ (.pointer (some ⟨w.heap.size+1+1,0,none⟩))).setCell ⟨w.heap.size+1,0,none⟩ (.int .i64 0):=⟨_,rfl⟩
  have gr1:W.grownBy (W.setCell ⟨w.heap.size,0,none⟩ (.pointer (some ⟨w.heap.size+1+1,0,none⟩))) (some (w.heap.size)):=⟨rfl,rfl,rfl,by simp,λk hk hne=>Below.heap_setCell _ _ _ k (λe=>hne (by rw[e]))⟩
  have gr2:(W.setCell ⟨w.heap.size,0,none⟩ (.pointer (some ⟨w.heap.size+1+1,0,none⟩))).grownBy W5 (some (w.heap.size+1)):=by rw[hW5];exact ⟨rfl,rfl,rfl,by simp,λk hk hne=>Below.heap_setCell _ _ _ k (λe=>hne (by rw[e]))⟩
  have q0:W5.cell? ⟨w.heap.size,0,none⟩=some (.pointer (some ⟨w.heap.size+1+1,0,none⟩)):=by rw[hW5];go_simp
  have q1:W5.cell? ⟨w.heap.size+1,0,none⟩=some (.int .i64 0):=by rw[hW5];go_simp
  have hR5:=Two.other (Two.other (Two.other HR.out gr1 (by omega) (by omega) (by omega)) gr2 (by omega) (by omega) (by omega)) (grownBy_putObj' W5 (w.heap.size+5) (.deferred none)) (by omega) (by omega) (by omega);have q0':=(cells_put (W:=W5) (k:=w.heap.size+5) (a:=⟨w.heap.size,0,none⟩) (.deferred none) (by show w.heap.size≠w.heap.size+5;omega)).1.trans q0;have q1':=(cells_put (W:=W5) (k:=w.heap.size+5) (a:=⟨w.heap.size+1,0,none⟩) (.deferred none) (by show w.heap.size+1≠w.heap.size+5;omega)).1.trans q1;rw[<-hW5];generalize W5.putObj (w.heap.size+5) (.deferred none)=W6 at hR5 q0' q1' ⊢;rw[HE.out.1];refine ⟨.tuple #[.pointer (some ⟨w.heap.size+1+1,0,none⟩), .int .i64 0],?_,w.heap.size+1+1,w.heap.size+7,rows,m,_,_,rfl,hR5,HE.out.2⟩;simp[results,Tryz.results6,go_sem,q0',q1']
end
end Go.Proofs.YtjapddfnpmlifaaGreatDoor
