import Derived.Test.YtjapddfnpmlifaaGreatDoorRunRuChk
import Derived.Test.YtjapddfnpmlifaaGreatDoorRunFxBase
set_option linter.all false
set_option maxRecDepth 1000000
set_option maxHeartbeats 12800000
namespace Go.Proofs.YtjapddfnpmlifaaGreatDoor
open Go.RowKit
def archP:List (List UInt8)->Option (Nat×Nat)
 | [a,b]=>match unsS a,unsS b with
  | some (step,_),some (n,long)=>bif step==0 then none else some (step,bif long then n/step else n)
  | _,_=>none
 | _=>none
theorem plain_no {l:List UInt8} (h:(58:UInt8)∈l):unsS l=none:=by
 have hd:isDg 58=false:=rfl;have hw:allDg (tailS l)=false:=by
  unfold tailS;cases hm:minusS l
  ·simp only[cond_false];cases e:allDg l
   ·rfl
   ·unfold allDg at e;rw[Bool.and_eq_true,List.all_eq_true] at e;have:=e.1 58 h;rw[hd] at this;cases this
  ·simp only[cond_true];match l,hm,h with
   | x::r,hm,h=>
    have hx:x=45:=by simpa [minusS] using hm
    have h':(58:UInt8)∈r:=by
     rcases List.mem_cons.1 h with e|h
     ·rw[hx] at e;exact absurd e (by decide)
     ·exact h
    cases e:allDg r
    ·simpa using e
    ·unfold allDg at e;rw[Bool.and_eq_true,List.all_eq_true] at e;have:=e.1 58 h';rw[hd] at this;cases this
 have hwn:wholeN l=none:=by unfold wholeN;rw[hw];rfl
 have hin:intvS l=none:=by
  unfold intvS;split
  ·rfl
  ·have hu:unitS (l.drop (dgN l))=0:=by
    have h2:(58:UInt8)∈l.drop (dgN l):=by
     have h3:=h;rw[<-List.take_append_drop (dgN l) l] at h3;rcases List.mem_append.1 h3 with h4|h4
     ·have:=List.all_eq_true.1 (dgN_take l) 58 h4;rw[hd] at this;cases this
     ·exact h4
    have key:∀m:List (List (List UInt8)×Nat),(∀x∈m,∀y∈x.1,(58:UInt8)∉y)->unitF (l.drop (dgN l)) m=0:=by
     intro m;induction m with
     | nil=>intro _;rfl
     | cons x m ih=>
      intro hm;obtain ⟨x1,x2⟩:=x;unfold unitF;have:inLU (l.drop (dgN l)) x1=false:=by
       unfold inLU;rw[List.any_eq_false];intro y hy e;have e':y=l.drop (dgN l):=by simpa using e
       exact hm (x1,x2) (List.mem_cons_self ..) y hy (e'▸h2)
      rw[this];exact ih (λy hy=>hm y (List.mem_cons_of_mem _ hy))
    exact key names (by decide)
   rw[hu];rfl
 unfold unsS;rw[hwn,hin];cases signB l<;>rfl
theorem archP_eq (l:List UInt8):archS l=archP (partS 58 l):=by
 rw[arch_of];cases hc:cutS 58 l with
 | none=>rw[partS_none hc];rfl
 | some p=>
  obtain ⟨a,b⟩:=p;rw[partS_some hc];cases hd:cutS 58 b with
  | none=>rw[partS_none hd];rfl
  | some q=>
   obtain ⟨b1,b2⟩:=q;have hm:(58:UInt8)∈b:=by rw[(cutS_some hd).1];simp
   have hn:=partS_ne 58 b2;rw[partS_some hd];simp only;rw[plain_no hm];cases h3:partS 58 b2 with
   | nil=>rw[h3] at hn;simp at hn
   | cons x y=>
    simp only[archP];cases unsS a with
    | none=>rfl
    | some z=>rfl
theorem archP_ne {P:List (List UInt8)} (h:¬P.length=2):archP P=none:=by
 match P,h with
 | [],_=>rfl
 | [_],_=>rfl
 | [_,_],h=>exact absurd rfl h
 | _::_::_::_,_=>rfl
theorem archsS_len:∀(m:List (List UInt8)) (l:List (Nat×Nat)),archsS m=some l->l.length=m.length
 | [],l,h=>by simp only[archsS,Option.some.injEq] at h;subst h;rfl
 | p::m,l,h=>by
  unfold archsS at h;cases hp:archS p with
  | none=>rw[hp] at h;cases h
  | some a=>
   rw[hp] at h;cases hm:archsS m with
   | none=>rw[hm] at h;cases h
   | some r=>
    rw[hm] at h;simp only[Option.map_some,Option.some.injEq] at h;subst h;simp[archsS_len m r hm]
structure RtJ (w:World) (B0 h b:Nat) (m:List (List UInt8)) (wr:World) (v:Value) (k:Nat) (l:List (Nat×Nat)):Prop where
 gr:Gr w wr
 sz:B0<=wr.heap.size
 S:Strs wr b m
 c0:wr.cell? ⟨h,0,none⟩=some (.int .i64 1)
 c1:wr.cell? ⟨h,1,none⟩=some (.int .i64 0)
 c2:wr.cell? ⟨h,2,none⟩=some v
 f2:wr.frozen? ⟨h,2,none⟩=false
 own:wr.ownsRow B0 34 2 v k (acells l)
 J:ArJ m k l
theorem RtJ.gr' {w:World} {B0 h b:Nat} {m:List (List UInt8)} {wr wr':World} {v:Value} {k:Nat} {l:List (Nat×Nat)} (I:RtJ w B0 h b m wr v k l) (hB:b≠h/\h<B0/\b<B0) (g:Gr wr wr'):RtJ w B0 h b m wr' v k l:=
 ⟨I.gr.trans g,Nat.le_trans I.sz g.size,I.S.gr (Nat.lt_of_lt_of_le hB.2.2 I.sz) g,(bc g (Nat.lt_of_lt_of_le hB.2.1 I.sz) I.c0),(bc g (Nat.lt_of_lt_of_le hB.2.1 I.sz) I.c1),(bc g (Nat.lt_of_lt_of_le hB.2.1 I.sz) I.c2),(bf g (Nat.lt_of_lt_of_le hB.2.1 I.sz) I.f2),own_grU I.own g,I.J⟩
theorem RtJ.keep {w:World} {B0 h b:Nat} {m:List (List UInt8)} {w4 w5:World} {v:Value} {k:Nat} {l:List (Nat×Nat)} {o:Obj} (I:RtJ w B0 h b m w4 v k l) (hg:(w4.alloc o).grownBy w5 v.ownBlock) {x:Nat} (hx:x<B0):w5.heap[x]?=w4.heap[x]?:=by
 have hx4:x<w4.heap.size:=Nat.lt_of_lt_of_le hx I.sz;rw[hg.block x (by simp;omega) (λe=>by have:=(I.own.lt x e.symm).1;omega)];exact heap_alloc_old _ _ hx4
theorem RtJ.mid {w:World} {B0 h b:Nat} {m:List (List UInt8)} {w4 w5:World} {v:Value} {k:Nat} {l:List (Nat×Nat)} {o:Obj} (I:RtJ w B0 h b m w4 v k l) (hB:b≠h/\h<B0/\b<B0) (hg:(w4.alloc o).grownBy w5 v.ownBlock):w5.cell? ⟨h,2,none⟩=some v/\w5.frozen? ⟨h,2,none⟩=false:=
 ⟨(World.cell?_of_block (I.keep hg hB.2.1)).trans I.c2,(World.frozen?_of_block (I.keep hg hB.2.1)).trans I.f2⟩
theorem RtJ.put {w:World} {B0 h b:Nat} {m:List (List UInt8)} {w4 w5:World} {v v':Value} {k:Nat} {l:List (Nat×Nat)} {o:Obj} {a:Nat×Nat} (I:RtJ w B0 h b m w4 v k l) (hB:b≠h/\h<B0/\b<B0) (hwh:w.heap.size<=h) (hk:k<m.length) (ha:archS m[k]=some a) (own2:w5.ownsRow B0 34 2 v' (k+1) (acells l++acells [a])) (hg:(w4.alloc o).grownBy w5 v.ownBlock):RtJ w B0 h b m (w5.setCell ⟨h,2,none⟩ v') v' (k+1) (l++[a]):=by
 have e:∀(x i:Nat),x<B0->w5.cell? ⟨x,i,none⟩=w4.cell? ⟨x,i,none⟩:=λx i hx=>World.cell?_of_block (I.keep hg hx);have g5:Gr w w5:=Gr.grown (Gr.alloc I.gr _) hg (λk hk=>by have:=(I.own.lt k hk).1;omega);refine ⟨g5.setCell hwh _,?_,λj hj=>?_,?_,?_,?_,?_,?_,I.J.step hk ha⟩
 ·have:=I.sz;have:=hg.size;simp at this ⊢;omega
 ·rw[World.cell?_setCell_other w5 ⟨h,2,none⟩ ⟨b,j,none⟩ _ (by simp;first|done|omega),e b j hB.2.2];exact I.S j hj
 ·rw[World.cell?_setCell_other w5 ⟨h,2,none⟩ ⟨h,0,none⟩ _ (by simp),e h 0 hB.2.1];exact I.c0
 ·rw[World.cell?_setCell_other w5 ⟨h,2,none⟩ ⟨h,1,none⟩ _ (by simp),e h 1 hB.2.1];exact I.c1
 ·exact World.cell?_setCell_same' _ _ _ (by rw[(I.mid hB hg).1];rfl)
 ·rw[World.frozen?_setCell];exact (I.mid hB hg).2
 ·rw[acells_append];exact own_setU own2 hB.2.1 _
theorem ref_RetentionsF (s:ByteArray) (hs:(s.size:Int)<=300) (w:World):Calls Tryz.prog 41 #[.string s] w (RetGF (retS s.data.toList) w):=by
 obtain ⟨i0,hi,hz0,hz1,hz2⟩:=info_parts info_arch;obtain ⟨m,hmm⟩:∃m,m=partS 44 s.data.toList:=⟨_,rfl⟩
 have hml:m.length<=301:=by
  have:=partS_len 44 s.data.toList;rw[<-hmm] at this;have e:s.data.toList.length=s.size:=by simp
  omega
 have hmp:∀p∈m,p.length<=300:=λp hp=>by
  have:=(partS_mem 44 s.data.toList p (hmm▸hp)).1;have e:s.data.toList.length=s.size:=by simp
  omega
 have hret:retS s.data.toList=match archsS m with|none=>none|some l=>bif mayS l then some l else none:=by rw[hmm];rfl
 have HS:=Lib.hid (λw=>ref_split s (by omega) 44 w);rw[<-hmm] at HS;have Hret:=Lib.hid hret;have Hmp:=Lib.hid hmp;clear hmm hret hmp;obtain ⟨V,hV⟩:∃V,V=w.alloc (.cells #[.int .i64 1, .int .i64 0, .slice none 0 0] 29):=⟨_,rfl⟩
 have gV:Gr w V:=by rw[hV];exact Gr.alloc (Gr.refl w) _
 have hzV:w.heap.size<V.heap.size:=by rw[hV];simp
 have hzV1:V.heap.size=w.heap.size+1:=by rw[hV];simp
 have c0:V.cell? ⟨w.heap.size,0,none⟩=some (.int .i64 1):=by rw[hV];go_simp
 have c1:V.cell? ⟨w.heap.size,1,none⟩=some (.int .i64 0):=by rw[hV];go_simp
 have c2:V.cell? ⟨w.heap.size,2,none⟩=some (.slice none 0 0):=by rw[hV];go_simp
 have f2:V.frozen? ⟨w.heap.size,2,none⟩=false:=by rw[hV];go_simp
 have HV:=Lib.hid hV;have GV:=Lib.hid gV;clear hV gV;go_enter Tryz.func41,Tryz.ntmps41;go_upto_region 2 with (fail)
 rw[<-HV.out];clear HV;go_upto_region 3 with (go_at_call 27;refine (HS.out _).mono ?_;rintro e w1 ⟨b,cp,rfl,hb0,hb,hS,g1⟩)
 have hh:w.heap.size<w1.heap.size:=Nat.lt_of_lt_of_le hzV g1.size;have I0:RtJ w w1.heap.size w.heap.size b m w1 (.slice none 0 0) 0 []:=⟨GV.out.trans g1,Nat.le_refl _,hS,(bc g1 hzV c0),(bc g1 hzV c1),(bc g1 hzV c2),(bf g1 hzV f2),World.ownsRow_nil _ _ _ _,rfl,λj _ h=>absurd h (Nat.not_lt_zero _)⟩
 have hbh:b≠w.heap.size:=by omega
 have GF0:=Lib.hid I0.gr;have HB:=Lib.hid (And.intro hbh (And.intro hh hb));have HI0:=Lib.hid I0;clear I0 c0 c1 c2 f2 hzV hzV1 hb0 hS g1 hbh;by_cases h8:8<m.length
 ·have h8':(8:Int)<(m.length:Int):=by omega
  have HN:Hid (retS s.data.toList=none):=Lib.hid (by
   rw[Hret.out];cases ha:archsS m with
   | none=>rfl
   | some l=>
    have:=archsS_len m l ha;simp only;rw[mayS_len (.inr (by omega))];rfl)
  clear h8;go_wp2;go_ret2;exact RetGF.none' HN.out GF0.out
 have h8':¬(8:Int)<(m.length:Int):=by omega
 go_wp2
 go_loopw [6] (λi wr=>∃(k:Nat) (v:Value) (l:List (Nat×Nat)),k<=m.length/\i= .int .i64 k/\RtJ w w1.heap.size w.heap.size b m wr v k l) (λi _=>m.length-(intOf i).toNat)
 case atStart=>exact ⟨0,_,[],Nat.zero_le _,rfl,HI0.out⟩
 case round=>
  obtain ⟨k,v,l,hk,rfl,I⟩:=hrel;have hb:=HB.out.2.2;by_cases hlt:k<m.length
  ·have hki:(k:Int)<(m.length:Int):=by omega
   have cs:=I.S k hlt;obtain ⟨X,hX⟩:∃X:ByteArray,X=⟨m[k].toArray⟩:=⟨_,rfl⟩
   have hXl:X.data.toList=m[k]:=by rw[hX]
   have hXs:X.data.toList.length<=300:=by rw[hXl];exact Hmp.out m[k] (List.getElem_mem hlt)
   have hXz:X.data.toList.length=X.size:=by simp
   rw[<-hX] at cs;have HS2:=Lib.hid (ref_split X (by omega) 58 wr);obtain ⟨P,hP⟩:∃P,P=partS 58 X.data.toList:=⟨_,rfl⟩
   rw[<-hP] at HS2;have hPl:∀p∈P,p.length<=300:=λp hp=>by have:=(partS_mem 58 X.data.toList p (hP▸hp)).1;omega
   have ha:archS m[k]=archP P:=by rw[archP_eq,<-hXl,hP]
   have hPP:=partS_len 58 X.data.toList;rw[<-hP] at hPP;have hPi:(P.length:Int)<=301:=by omega
   have HI:=Lib.hid I;have Ha:=Lib.hid (And.intro ha hPl);have HNO:Hid (archP P=none->retS s.data.toList=none):=Lib.hid (λe=>by rw[Hret.out,archsS_none m k hlt (ha.trans e)]);clear I hX hXl hXs hXz hP hPl ha hPP;by_cases h2:P.length=2;rotate_left
   ·have hne:((P.length:Int)==2)=false:=beq_eq_false_iff_ne.2 (by omega);have hne2:((P.length:Int) != 2)=true:=by rw[bne,hne];rfl
    have HN:Hid (retS s.data.toList=none):=Lib.hid (HNO.out (archP_ne h2));clear h2;go_wp2_with (go_at_call 27;refine HS2.out.mono ?_;rintro e w2 ⟨b2,cp2,rfl,hb20,hb2,hS2,g2⟩;have G2:=Lib.hid g2;clear g2);go_ret2;exact RetGF.none' HN.out (HI.out.gr.trans G2.out)
   ·obtain ⟨pa,pb,rfl⟩:∃pa pb,P=[pa,pb]:=by
     match P,h2 with
     | [x,y],_=>exact ⟨x,y,rfl⟩
    obtain ⟨A,hA⟩:∃A:ByteArray,A=⟨pa.toArray⟩:=⟨_,rfl⟩
    obtain ⟨B,hB⟩:∃B:ByteArray,B=⟨pb.toArray⟩:=⟨_,rfl⟩
    have hAl:A.data.toList=pa:=by rw[hA]
    have hBl:B.data.toList=pb:=by rw[hB]
    have hAs:(A.size:Int)<=4096:=by
     have h1:=Ha.out.2 pa (by simp);have h3:A.data.toList.length=A.size:=by simp
     rw[hAl] at h3;omega
    have hBs:(B.size:Int)<=4096:=by
     have h1:=Ha.out.2 pb (by simp);have h3:B.data.toList.length=B.size:=by simp
     rw[hBl] at h3;omega
    have HPA:=Lib.hid (ref_plain A hAs);have HPB:=Lib.hid (ref_plain B hBs);have hlA:=λn z (h:unsS A.data.toList=some (n,z))=>unsS_le h;have hlB:=λn z (h:unsS B.data.toList=some (n,z))=>unsS_le h;have hax:archP [pa,pb]=match unsS A.data.toList,unsS B.data.toList with
     | some (step,_),some (n,long)=>bif step==0 then none else some (step,bif long then n/step else n)
     | _,_=>none:=by rw[hAl,hBl];rfl
    have HST:Hid (∀W g,Strs W g [pa,pb]->W.cell? ⟨g,0,none⟩=some (.string A)/\W.cell? ⟨g,1,none⟩=some (.string B)):=Lib.hid λW g h=>⟨by rw[hA];exact h 0 (by simp),by rw[hB];exact h 1 (by simp)⟩
    clear hA hB hAl hBl hAs hBs h2;cases hA:unsS A.data.toList with
    | none=>
     rw[hA] at HPA;have HN:Hid (retS s.data.toList=none):=Lib.hid (HNO.out (by rw[hax,hA]));clear hax hlA hlB hA;go_upto_region 11 with (go_at_call 27;refine HS2.out.mono ?_;rintro e w2 ⟨b2,cp2,rfl,hb20,hb2,hS2,g2⟩)
     obtain ⟨s0,s1⟩:=HST.out w2 b2 hS2;have HI2:=Lib.hid (HI.out.gr' HB.out g2);clear hb20 hS2 g2 cs;go_upto_region 12 with (go_at_call 65;refine (HPA.out _).mono ?_;rintro e w3 h3;obtain ⟨z3,rfl,g3⟩:=h3)
     have s1':=bc g3 hb2 s1;have HI3:=Lib.hid (HI2.out.gr' HB.out g3);clear s0 s1 hb2 g3;have s1:=s1';clear s1';go_upto_region 13 with (go_at_call 65;refine (HPB.out _).mono ?_;rintro e w4 h4;obtain ⟨n4,z4,o4,rfl,g4⟩:=h4.weak;clear h4)
     have HI4:=Lib.hid (HI3.out.gr' HB.out g4);clear s1 g4;go_wp2;go_ret2;exact RetGF.none' HN.out HI4.out.gr
    | some xa=>
     obtain ⟨a,za⟩:=xa;have ha1:=hlA a za hA;have hai:(a:Int)<=4611686018427387904:=by unfold maxN at ha1;omega
     rw[hA] at HPA hax;clear hA hlA ha1;cases hB:unsS B.data.toList with
     | none=>
      rw[hB] at HPB;have HN:Hid (retS s.data.toList=none):=Lib.hid (HNO.out (by rw[hax,hB]));clear hax hlB hB;go_upto_region 11 with (go_at_call 27;refine HS2.out.mono ?_;rintro e w2 ⟨b2,cp2,rfl,hb20,hb2,hS2,g2⟩)
      obtain ⟨s0,s1⟩:=HST.out w2 b2 hS2;have HI2:=Lib.hid (HI.out.gr' HB.out g2);clear hb20 hS2 g2 cs;go_upto_region 12 with (go_at_call 65;refine (HPA.out _).mono ?_;rintro e w3 h3;obtain ⟨rfl,g3⟩:=h3)
      have s1':=bc g3 hb2 s1;have HI3:=Lib.hid (HI2.out.gr' HB.out g3);clear s0 s1 hb2 g3;have s1:=s1';clear s1';go_upto_region 13 with (go_at_call 65;refine (HPB.out _).mono ?_;rintro e w4 h4;obtain ⟨z4,rfl,g4⟩:=h4)
      have HI4:=Lib.hid (HI3.out.gr' HB.out g4);clear s1 g4;go_wp2;go_ret2;exact RetGF.none' HN.out HI4.out.gr
     | some xb=>
      obtain ⟨n,long⟩:=xb;have hb1:=hlB n long hB;have hbi:(n:Int)<=4611686018427387904:=by unfold maxN at hb1;omega
      rw[hB] at HPB hax;simp only at hax;clear hB hlB hb1;by_cases h0:a=0
      ·subst h0;have HN:Hid (retS s.data.toList=none):=Lib.hid (HNO.out (by rw[hax];rfl));clear hax;go_upto_region 11 with (go_at_call 27;refine HS2.out.mono ?_;rintro e w2 ⟨b2,cp2,rfl,hb20,hb2,hS2,g2⟩)
       obtain ⟨s0,s1⟩:=HST.out w2 b2 hS2;have HI2:=Lib.hid (HI.out.gr' HB.out g2);clear hb20 hS2 g2 cs;go_upto_region 12 with (go_at_call 65;refine (HPA.out _).mono ?_;rintro e w3 h3;obtain ⟨rfl,g3⟩:=h3)
       have s1':=bc g3 hb2 s1;have HI3:=Lib.hid (HI2.out.gr' HB.out g3);clear s0 s1 hb2 g3;have s1:=s1';clear s1';go_upto_region 13 with (go_at_call 65;refine (HPB.out _).mono ?_;rintro e w4 h4;obtain ⟨rfl,g4⟩:=h4)
       have HI4:=Lib.hid (HI3.out.gr' HB.out g4);clear s1 g4;go_wp2;go_ret2;exact RetGF.none' HN.out HI4.out.gr
      ·have hne:(a==0)=false:=beq_eq_false_iff_ne.2 h0;have hal:¬(a:Int)<1:=by omega
       have ha0:¬(a:Int)=0:=by omega
       rw[hne,cond_false] at hax;cases long with
       | false=>
        have HAR:Hid (archS m[k]=some (a,n)):=Lib.hid (by rw[Ha.out.1,hax];rfl);clear hax hne h0;go_upto_region 11 with (go_at_call 27;refine HS2.out.mono ?_;rintro e w2 ⟨b2,cp2,rfl,hb20,hb2,hS2,g2⟩)
        obtain ⟨s0,s1⟩:=HST.out w2 b2 hS2;have HI2:=Lib.hid (HI.out.gr' HB.out g2);clear hb20 hS2 g2 cs;go_upto_region 12 with (go_at_call 65;refine (HPA.out _).mono ?_;rintro e w3 h3;obtain ⟨rfl,g3⟩:=h3)
        have s1':=bc g3 hb2 s1;have HI3:=Lib.hid (HI2.out.gr' HB.out g3);clear s0 s1 hb2 g3;have s1:=s1';clear s1';go_upto_region 13 with (go_at_call 65;refine (HPB.out _).mono ?_;rintro e w4 h4;obtain ⟨rfl,g4⟩:=h4)
        have HI4:=Lib.hid (HI3.out.gr' HB.out g4);clear s1 g4;obtain ⟨A4,c4,hv⟩:=own_form HI4.out.own;subst hv;have hv0:=own_grU HI4.out.own (Gr.alloc (Gr.refl w4) (.cells #[.int .i64 a, .int .i64 n] 34));have hvl:=HI4.out.own.lt;have hrx:Rd (w4.alloc (.cells #[.int .i64 a, .int .i64 n] 34)) 2 (some ⟨w4.heap.size,0,none⟩) 1 (acells [(a,n)]):=Rd.newU (W:=w4) rfl 34 (acells [(a,n)]) rfl;have c2:=HI4.out.c2;have hsz4:=HI4.out.sz;have hzw:w.heap.size<w4.heap.size:=Nat.lt_of_lt_of_le hh hsz4;go_wp2_with (at_builtin;refine wpList_append_rd rfl (.tmp 65) (.tmp 69) 27 rfl w1.heap.size 34 i0 _ 2 16 Tryz.underlying27 hi hz0 hz1 hz2 rfl (by decide) _ _ _ rfl hv0 (some ⟨w4.heap.size,0,none⟩) 1 _ (acells [(a,n)]) rfl hrx (acells_one _) (by unfold maxLen;omega) (by omega) (by simp;omega) ?_;intro v' w5 hown2 hgr2 hat2;obtain ⟨A5,c5,hv5⟩:=own_form hown2;subst hv5;obtain ⟨c2b,f2b⟩:=HI4.out.mid HB.out hgr2;have HP:=Lib.hid (HI4.out.put HB.out (Nat.le_refl _) hlt HAR.out hown2 hgr2);clear hv0 hvl hgr2 hat2 hrx hown2 c2);go_roundw;case rel=>exact ⟨k+1,_,_,by omega,by go_num,HP.out⟩
        case measure=>simp[intOf];omega
       | true=>
        have HAR:Hid (archS m[k]=some (a,n/a)):=Lib.hid (by rw[Ha.out.1,hax];rfl);have hwd:wrap64 ((n:Int)/(a:Int))=(n:Int)/(a:Int):=by
         have h1:=Nat.div_le_self n a;rw[<-Int.natCast_ediv];generalize n/a=q at *;exact IntWalk.wrap64_in (q:Int) (by omega)
        clear hax hne h0;go_upto_region 11 with (go_at_call 27;refine HS2.out.mono ?_;rintro e w2 ⟨b2,cp2,rfl,hb20,hb2,hS2,g2⟩)
        obtain ⟨s0,s1⟩:=HST.out w2 b2 hS2;have HI2:=Lib.hid (HI.out.gr' HB.out g2);clear hb20 hS2 g2 cs;go_upto_region 12 with (go_at_call 65;refine (HPA.out _).mono ?_;rintro e w3 h3;obtain ⟨rfl,g3⟩:=h3)
        have s1':=bc g3 hb2 s1;have HI3:=Lib.hid (HI2.out.gr' HB.out g3);clear s0 s1 hb2 g3;have s1:=s1';clear s1';go_upto_region 13 with (go_at_call 65;refine (HPB.out _).mono ?_;rintro e w4 h4;obtain ⟨rfl,g4⟩:=h4)
        have HI4:=Lib.hid (HI3.out.gr' HB.out g4);clear s1 g4;obtain ⟨A4,c4,hv⟩:=own_form HI4.out.own;subst hv;have hv0:=own_grU HI4.out.own (Gr.alloc (Gr.refl w4) (.cells #[.int .i64 a, .int .i64 (n/a:Nat)] 34));have hvl:=HI4.out.own.lt;have hrx:Rd (w4.alloc (.cells #[.int .i64 a, .int .i64 (n/a:Nat)] 34)) 2 (some ⟨w4.heap.size,0,none⟩) 1 (acells [(a,(n/a:Nat))]):=Rd.newU (W:=w4) rfl 34 (acells [(a,(n/a:Nat))]) rfl;have c2:=HI4.out.c2;have hsz4:=HI4.out.sz;have hzw:w.heap.size<w4.heap.size:=Nat.lt_of_lt_of_le hh hsz4;go_wp2_with (at_builtin;refine wpList_append_rd rfl (.tmp 65) (.tmp 69) 27 rfl w1.heap.size 34 i0 _ 2 16 Tryz.underlying27 hi hz0 hz1 hz2 rfl (by decide) _ _ _ rfl hv0 (some ⟨w4.heap.size,0,none⟩) 1 _ (acells [(a,(n/a:Nat))]) rfl hrx (acells_one _) (by unfold maxLen;omega) (by omega) (by simp;omega) ?_;intro v' w5 hown2 hgr2 hat2;obtain ⟨A5,c5,hv5⟩:=own_form hown2;subst hv5;obtain ⟨c2b,f2b⟩:=HI4.out.mid HB.out hgr2;have HP:=Lib.hid (HI4.out.put HB.out (Nat.le_refl _) hlt HAR.out hown2 hgr2);clear hv0 hvl hgr2 hat2 hrx hown2 c2);go_roundw;case rel=>exact ⟨k+1,_,_,by omega,by go_num,HP.out⟩
        case measure=>simp[intOf];omega
  ·have hkk:k=m.length:=by omega
   subst hkk;obtain ⟨A,c,hv⟩:=own_form I.own;subst hv;have hr:=Ra.own I.own;have HFr:Hid (∀ad,A=some ad->w.heap.size<=ad.block):=Lib.hid λad e=>(by have:=(I.own.lt ad.block (by rw[e];rfl)).1;omega)
   have hjl:=I.J.len;have hC:=λW hW=>ref_may A c l (I.J.le (Nat.le_refl _)) (by omega) W hW;rw[hjl] at hC;obtain ⟨c0,c1,c2⟩:=And.intro I.c0 (And.intro I.c1 I.c2);have HI:=Lib.hid I;have Hr:=Lib.hid hr;have HC:=Lib.hid (hC wr hr);have hzw:w.heap.size<wr.heap.size:=Nat.lt_of_lt_of_le hh I.sz;clear hC hr I;cases hM:mayS l with
   | false=>
    have HN:Hid (retS s.data.toList=none):=Lib.hid (by rw[Hret.out,HI.out.J.done];simp only[hM];rfl);rw[hM] at HC;clear hM;go_wp2_with (go_at_call 66;refine HC.out.mono ?_;rintro e w2 ⟨rfl,g2⟩;have G2:=Lib.hid g2;clear g2);go_ret2;exact RetGF.none' HN.out (HI.out.gr.trans G2.out)
   | true=>
    have HN:Hid (retS s.data.toList=some l):=Lib.hid (by rw[Hret.out,HI.out.J.done];simp only[hM];rfl);rw[hM] at HC;clear hM;go_wp2_with (go_at_call 66;refine HC.out.mono ?_;rintro e w2 ⟨rfl,g2⟩;have G2:=Lib.hid g2;have c2b:=bc g2 hzw c2;clear g2 c0 c1 c2);go_ret2;rw[<-HI.out.J.len];exact RetGF.some' HN.out (Hr.out.gr G2.out) (HI.out.gr.trans G2.out) HFr.out
theorem archives_same (A B:Option Addr) (c d:Nat) (l:List (Nat×Nat)) (hl:(l.length:Int)<=1000) (hn:∀a∈l,a.1<=maxN/\a.2<=maxN) (w:World) (ha:Ra w A l) (hb:Ra w B l):Calls Tryz.prog 14 #[.slice A l.length c, .slice B l.length d] w λe w'=>e= .returned (.bool true)/\Gr w w':=by
 have HA:=Lib.hid ha;have HB:=Lib.hid hb;clear ha hb hn;go_enter Tryz.func14,Tryz.ntmps14;go_wp2
 go_loopw [5] (λi wr=>∃k:Nat,k<=l.length/\i= .int .i64 k/\Gr w wr) (λi _=>l.length-(intOf i).toNat)
 case atStart=>exact ⟨0,Nat.zero_le _,rfl,Gr.refl _⟩
 case round=>
  obtain ⟨k,hk,rfl,hgr⟩:=hrel;have G:=Lib.hid hgr;by_cases hlt:k<l.length
  ·have hki:(k:Int)<(l.length:Int):=by omega
   obtain ⟨b,rfl,hb,hc⟩:=(HA.out.gr hgr) (by omega)
   obtain ⟨b',rfl,hb',hc'⟩:=(HB.out.gr hgr) (by omega)
   obtain ⟨d0,d1⟩:=hc k hlt;obtain ⟨e0,e1⟩:=hc' k hlt;generalize l[k].1=x1 at *;generalize l[k].2=x2 at *;clear hc hc' hgr;go_upto_region 6 with (fail)
   refine region_Q (by kernel_rfl) (by kernel_rfl) ?_;(iterate 3 refine qv ?_);refine qv ?_ (h:=λW hW=>by have g:=bc hW hb d0;have g2:=bc hW hb d1;go_simp<;>rfl);(iterate 3 refine qv ?_);refine qv ?_ (h:=λW hW=>by have g:=bc hW hb' e0;have g2:=bc hW hb' e1;go_simp<;>rfl);refine qv ?_;refine wpQuiet_nil ?_;intro w8 hw8;have G8:=Lib.hid hw8;clear hw8 d0 d1 e0 e1;go_wp2;go_roundw;case rel=>exact ⟨k+1,by omega,by go_num,G.out.trans G8.out⟩
   case measure=>simp[intOf];omega
  ·have hkk:k=l.length:=by omega
   subst hkk;clear hgr;go_wp2;go_ret;exact ⟨rfl,G.out⟩
theorem Ra.two (w:World) (x y:Nat×Nat):Ra (w.alloc (.cells #[.int .i64 (x.1:Nat), .int .i64 (x.2:Nat), .int .i64 (y.1:Nat), .int .i64 (y.2:Nat)] 34)) (some ⟨w.heap.size,0,none⟩) [x,y]:=λ_=>by
 refine ⟨w.heap.size,rfl,by simp,λk hk=>?_⟩;match k,hk with
 | 0,_=>constructor<;>go_simp
 | 1,_=>constructor<;>go_simp
theorem known25_any (w:World) (hm:Ml w):Calls Tryz.prog 9 #[] w λe w'=>e= .returned (.bool true)/\Gr w w':=by
 have HR:=rules_Retentions ⟨#[49,48,115,58,49,109,105,110,44,49,109,105,110,58,49,104]⟩ (by decide) w hm;have hk:retS (⟨#[49,48,115,58,49,109,105,110,44,49,109,105,110,58,49,104]⟩:ByteArray).data.toList=some [(10,6),(60,60)]:=known_25;rw[hk] at HR;have HRR:=Lib.hid HR;clear HR hk hm;go_enter Tryz.func9,Tryz.ntmps9;go_upto_region 2 with (go_at_call 26;refine HRR.out.mono ?_;rintro e w1 ⟨A,c,rfl,hr,g1⟩;simp only[Option.getD_some,Option.isSome_some,if_true,List.length_cons,List.length_nil,Nat.zero_add])
 have HA:=Lib.hid (archives_same A (some ⟨w1.heap.size,0,none⟩) c 2 [(10,6),(60,60)] (by decide) (by decide) (w1.alloc (.cells #[.int .i64 ((10:Nat):Int), .int .i64 ((6:Nat):Int), .int .i64 ((60:Nat):Int), .int .i64 ((60:Nat):Int)] 34)) (hr.gr (Gr.alloc (Gr.refl _) _)) (Ra.two w1 (10,6) (60,60)));have G1:=Lib.hid g1;clear hr g1 HRR;go_wp2_with (go_at_call 14;refine HA.out.mono ?_;rintro e w2 ⟨rfl,g2⟩;have G2:=Lib.hid g2;clear g2);go_ret;exact ⟨rfl,(G1.out.trans (Gr.alloc (Gr.refl _) _)).trans G2.out⟩
theorem retS_le {l:List UInt8} {m:List (Nat×Nat)} (h:retS l=some m):m.length<=8/\∀a∈m,a.1<=maxN/\a.2<=maxN:=by
 unfold retS at h;cases ha:archsS (partS 44 l) with
 | none=>rw[ha] at h;cases h
 | some r=>
  rw[ha] at h;simp only at h;cases hM:mayS r
  ·rw[hM] at h;cases h
  ·rw[hM] at h;simp only[cond_true,Option.some.injEq] at h;subst h;have h1:=hM;rw[mayS_eq] at h1;simp only[Bool.and_eq_true,Nat.ble_eq] at h1;refine ⟨h1.1.1.1,λa ha'=>?_⟩;obtain ⟨j,hj,rfl⟩:=List.mem_iff_getElem.1 ha';have:=((steps_iff r).1 h1.1.1.2).2 j hj;rw[stepOk_at hj,Bool.and_eq_true] at this;have:=oneOk_iff.1 this.1;unfold maxN;omega
end Go.Proofs.YtjapddfnpmlifaaGreatDoor
