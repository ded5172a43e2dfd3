import Derived.Test.YtoncapkmaeghfaaGreatRunRwFeE
import Derived.Test.YtoncapkmaeghfaaGreatRunWhHdr
import Derived.Test.YtoncapkmaeghfaaGreatRunRwInf
import Derived.Test.YtoncapkmaeghfaaGreatRunRegR
set_option linter.all false
set_option maxRecDepth 1000000
set_option maxHeartbeats 12800000
namespace Go.Proofs.YtoncapkmaeghfaaGreat
open Go.RowKit
def pcells (l:List (Int×Int)):List Value:=l.flatMap fun a=>[.int .i64 a.1, .int .i64 a.2]
theorem pcells_cons (a:Int×Int) (l:List (Int×Int)):pcells (a::l)= .int .i64 a.1 :: .int .i64 a.2::pcells l:=rfl
theorem pcells_append (l m:List (Int×Int)):pcells (l++m)=pcells l++pcells m:=by simp[pcells]
theorem pcells_length (l:List (Int×Int)):(pcells l).length=l.length*2:=by
 induction l with
 | nil=>rfl
 | cons v l ih=>rw[pcells_cons];simp only[List.length_cons,ih];omega
theorem pcells_one (l:List (Int×Int)):∀u∈pcells l,u.oneCell'=true:=by
 intro u hu
 simp only[pcells,List.mem_flatMap] at hu
 obtain ⟨v,_,hv⟩:=hu
 simp at hv
 rcases hv with rfl|rfl<;>rfl
theorem pcells_at (l:List (Int×Int)):∀(k:Nat) (h:k<l.length),(pcells l)[k*2]?=some (.int .i64 l[k].1)∧(pcells l)[k*2+1]?=some (.int .i64 l[k].2):=by
 induction l with
 | nil=>intro k h;simp at h
 | cons v l ih=>
  intro k h
  match k with
  | 0=>exact ⟨rfl,rfl⟩
  | k+1=>
   obtain ⟨i1,i2⟩:=ih k (by simpa using h)
   rw[pcells_cons]
   refine ⟨?_,?_⟩
   ·
    rw[show (k+1)*2=k*2+1+1 by omega];simpa using i1
   ·
    rw[show (k+1)*2+1=k*2+1+1+1 by omega];simpa using i2
theorem Ri.ownP {w:World} {base:Nat} {e:TypeId} {n c:Nat} {A:Option Addr} {l:List (Int×Int)} (h:w.ownsRow base e 2 (.slice A n c) n (pcells l)):Ri w A l:=fun h0=>by
 have hn:n=l.length:=by have:=h.1;rw[pcells_length] at this;omega
 obtain ⟨g,e, -,hg,hc⟩:=own_blockU h (by omega)
 refine ⟨⟨g,0,none⟩,e,hg,fun k hk=>?_⟩
 rw[add_own]
 exact ⟨hc _ _ (pcells_at l k hk).1,hc _ _ (pcells_at l k hk).2⟩
theorem info_point:(Tryz.prog.info? 54).map (fun i=>(i.zero,i.size,i.bytes))=some (some (.agg #[.int .i64 0, .int .i64 0]),2,16):=by kernel_rfl
def ringS (m:Arcs) (D:List UInt8) (i:Nat):List (Int×Int):=(List.range (cntS m i)).map fun (k:Nat)=>(decT (slotS D (offS m i+12*k)),decN (slotS D (offS m i+12*k)))
theorem ring_in {m:Arcs} (h:MayF m) {i:Nat} (hi:i<m.length) {k:Nat} (hk:k<cntS m i):offS m i+12*k+12≤sizeS m:=by
 have h2:=offS_succ hi
 have h3:=offS_le (m:=m) (i:=i+1) (by omega)
 rw[cntS_at hi] at hk
 omega
def RetRg (m:Arcs) (D:List UInt8) (i:Nat) (w:World) (e:Ending) (w':World):Prop:=
 Gr w w'∧∃A c,e= .returned (.tuple #[.slice A (ringS m D i).length c, .int .i64 0])∧Ri w' A (ringS m D i)
theorem xring_gone {Y:Nat→Prop} {X:Nat} {R:Option Nat} {room:Int} {n:Nat} (i:Int) (w:World) (h:RsM Y w X R room n none):Calls Tryz.prog 39 #[.pointer (some ⟨X,0,none⟩), .string nmA, .int .i64 i] w fun e w'=>e= .returned (.tuple #[.slice none 0 0, .int .i64 5])∧Gr w w':=by
 have HIN:=Lib.hid (xinfo_none w h)
 clear h
 go_enter Tryz.func39,Tryz.ntmps39
 go_wp2_with (go_at_call 16;refine HIN.out.mono ?_;rintro e w1 ⟨rfl,g1⟩;have HG1:=Lib.hid g1;clear g1)
 go_ret2
 exact ⟨rfl,HG1.out.alloc _⟩
theorem xring_bad {Y:Nat→Prop} {X:Nat} {R:Option Nat} {room:Int} {n:Nat} {D:List UInt8} (hD:(D.length:Int)≤1073741824) (ho:opS D=none) (i:Int) (w:World) (h:RsM Y w X R room n (some D)):Calls Tryz.prog 39 #[.pointer (some ⟨X,0,none⟩), .string nmA, .int .i64 i] w fun e w'=>e= .returned (.tuple #[.slice none 0 0, .int .i64 2])∧Gr w w':=by
 have HIN:=Lib.hid (xinfo_any D hD w h)
 have HOD:=Lib.hid ho
 clear h hD ho
 go_enter Tryz.func39,Tryz.ntmps39
 go_wp2_with (go_at_call 16;refine HIN.out.mono ?_;rintro e w1 ⟨g1,h1⟩;rw[HOD.out] at h1;simp only at h1;subst h1;have HG1:=Lib.hid g1;clear g1)
 go_ret2
 exact ⟨rfl,HG1.out.alloc _⟩
theorem xring_range {Y:Nat→Prop} {X:Nat} {R:Option Nat} {room:Int} {n:Nat} {D:List UInt8} {ag xf:Nat} {m:Arcs} (hD:(D.length:Int)≤1073741824) (ho:opS D=some (ag,xf,m)) (i:Int) (hi:¬(0≤i∧i<m.length)) (w:World) (h:RsM Y w X R room n (some D)):Calls Tryz.prog 39 #[.pointer (some ⟨X,0,none⟩), .string nmA, .int .i64 i] w fun e w'=>e= .returned (.tuple #[.slice none 0 0, .int .i64 1])∧Gr w w':=by
 have HIN:=Lib.hid (xinfo_any D hD w h)
 have HOD:=Lib.hid ho
 clear h hD ho
 by_cases q1:i<0
 ·
  go_enter Tryz.func39,Tryz.ntmps39
  go_upto_region 4 with (go_at_call 16;refine HIN.out.mono ?_;rintro e w1 ⟨g1,h1⟩;rw[HOD.out] at h1;obtain ⟨A1,c1,rfl,hc1,hr1,hf1⟩:=h1;have H1:=Lib.hid (And.intro hc1 (And.intro hr1 (And.intro hf1 g1)));clear hc1 hr1 hf1 g1)
  obtain ⟨V1,hV1⟩:∃V1,V1=w1.alloc (.cells #[.int .i64 ag, .int .i64 xf, .slice A1 m.length c1] 24):=⟨_,rfl⟩
  have k1:Gr w1 V1:=by rw[hV1];exact Gr.alloc (Gr.refl w1) _
  have hz1:w1.heap.size<V1.heap.size:=by rw[hV1];simp
  have y0:V1.cell? ⟨w1.heap.size,0,none⟩=some (.int .i64 ag):=by rw[hV1];go_simp
  have y1:V1.cell? ⟨w1.heap.size,1,none⟩=some (.int .i64 xf):=by rw[hV1];go_simp
  have y2:V1.cell? ⟨w1.heap.size,2,none⟩=some (.slice A1 m.length c1):=by rw[hV1];go_simp
  have HK1:=Lib.hid k1
  have HGA:=Lib.hid (H1.out.2.2.2.trans k1)
  rw[←hV1]
  clear hV1 k1
  go_wp2
  go_ret2
  exact ⟨rfl,HGA.out⟩
 ·
  have q2:(m.length:Int)≤i:=by omega
  go_enter Tryz.func39,Tryz.ntmps39
  go_upto_region 4 with (go_at_call 16;refine HIN.out.mono ?_;rintro e w1 ⟨g1,h1⟩;rw[HOD.out] at h1;obtain ⟨A1,c1,rfl,hc1,hr1,hf1⟩:=h1;have H1:=Lib.hid (And.intro hc1 (And.intro hr1 (And.intro hf1 g1)));clear hc1 hr1 hf1 g1)
  obtain ⟨V1,hV1⟩:∃V1,V1=w1.alloc (.cells #[.int .i64 ag, .int .i64 xf, .slice A1 m.length c1] 24):=⟨_,rfl⟩
  have k1:Gr w1 V1:=by rw[hV1];exact Gr.alloc (Gr.refl w1) _
  have hz1:w1.heap.size<V1.heap.size:=by rw[hV1];simp
  have y0:V1.cell? ⟨w1.heap.size,0,none⟩=some (.int .i64 ag):=by rw[hV1];go_simp
  have y1:V1.cell? ⟨w1.heap.size,1,none⟩=some (.int .i64 xf):=by rw[hV1];go_simp
  have y2:V1.cell? ⟨w1.heap.size,2,none⟩=some (.slice A1 m.length c1):=by rw[hV1];go_simp
  have HK1:=Lib.hid k1
  have HGA:=Lib.hid (H1.out.2.2.2.trans k1)
  rw[←hV1]
  clear hV1 k1
  go_wp2
  go_ret2
  exact ⟨rfl,HGA.out⟩
theorem xring_any {Y:Nat→Prop} {X:Nat} {R:Option Nat} {room:Int} {n:Nat} {D:List UInt8} {ag xf:Nat} {m:Arcs} (hD:(D.length:Int)≤1073741824) (ho:opS D=some (ag,xf,m)) (i:Nat) (hi:i<m.length) (w:World) (h:RsM Y w X R room n (some D)):Calls Tryz.prog 39 #[.pointer (some ⟨X,0,none⟩), .string nmA, .int .i64 i] w (RetRg m D i w):=by
 obtain ⟨v0,hv0,vz0,vz1,vz2⟩:=info_parts info_point
 obtain ⟨-,hlen,hM⟩:=opS_of ho
 have hF:=MayF.ofH hM
 have HIN:=Lib.hid (xinfo_any D hD w h)
 have HOD:=Lib.hid ho
 have hm8:(m.length:Int)≤8:=by have:=hF.l8;omega
 have hii:¬(i:Int)<0:=by omega
 have hil:¬(m.length:Int)≤(i:Int):=by omega
 have hil2:(i:Int)<(m.length:Int):=by omega
 have hil0:¬m.length≤i:=by omega
 have hil4:decide (m.length≤i)=false:=decide_eq_false hil0
 obtain ⟨L,hL⟩:∃L,L=ringS m D i:=⟨_,rfl⟩
 obtain ⟨C,hC⟩:∃C,C=cntS m i:=⟨_,rfl⟩
 have hLl:L.length=C:=by rw[hL];unfold ringS;rw[List.length_map,List.length_range,hC]
 have hLq:∀q (hq:q<L.length),L[q]=(decT (slotS D (offS m i+12*q)),decN (slotS D (offS m i+12*q))):=fun q hq=>by
  subst hL
  simp only[ringS,List.getElem_map,List.getElem_range]
 have HL:=Lib.hid (And.intro hLl (And.intro hLq hL))
 have hct:=hF.c1 i hi
 rw[←hC] at hct
 have hCi:(C:Int)≤16777216:=by omega
 have hsz:=hF.sz
 obtain ⟨of,hof⟩:∃of,of=offS m i:=⟨_,rfl⟩
 have HIN2:Hid (∀k,k<C→of+12*k+12≤D.length):=Lib.hid fun k hk=>by rw[hof,←hlen];exact ring_in hF hi (by rw[←hC];exact hk)
 have hDl:(D.length:Int)≤1048576:=by omega
 have HF:=Lib.hid (And.intro hF (And.intro hM (And.intro hC (And.intro hof hi))))
 have HD:=Lib.hid (And.intro hD h)
 have hwi:IntKind.i64.wrap (i:Int)=(i:Int):=IntWalk.i64_in _ (by omega)
 unfold RetRg
 rw[←hL]
 clear h hD ho hlen hM hF hL hLl hLq hct hsz hof hC hi
 go_enter Tryz.func39,Tryz.ntmps39
 go_upto_region 4 with (go_at_call 16;refine HIN.out.mono ?_;rintro e w1 ⟨g1,h1⟩;rw[HOD.out] at h1;obtain ⟨A1,c1,rfl,hc1,hr1,hf1⟩:=h1;have H1:=Lib.hid (And.intro hc1 (And.intro hr1 (And.intro hf1 g1)));clear hc1 hr1 hf1 g1)
 obtain ⟨V1,hV1⟩:∃V1,V1=w1.alloc (.cells #[.int .i64 ag, .int .i64 xf, .slice A1 m.length c1] 24):=⟨_,rfl⟩
 have k1:Gr w1 V1:=by rw[hV1];exact Gr.alloc (Gr.refl w1) _
 have hz1:w1.heap.size<V1.heap.size:=by rw[hV1];simp
 have y0:V1.cell? ⟨w1.heap.size,0,none⟩=some (.int .i64 ag):=by rw[hV1];go_simp
 have y1:V1.cell? ⟨w1.heap.size,1,none⟩=some (.int .i64 xf):=by rw[hV1];go_simp
 have y2:V1.cell? ⟨w1.heap.size,2,none⟩=some (.slice A1 m.length c1):=by rw[hV1];go_simp
 have HK1:=Lib.hid k1
 have HGA:=Lib.hid (H1.out.2.2.2.trans k1)
 rw[←hV1]
 clear hV1 k1
 obtain ⟨ad,rfl,hb,hc⟩:=H1.out.2.1 (by rw[ints_len];have:=HF.out.1.l1;omega)
 have HAR:Hid (∀W,Gr V1 W→W.cell? ⟨w1.heap.size,0,none⟩=some (.int .i64 ag)∧W.cell? ⟨w1.heap.size,1,none⟩=some (.int .i64 xf)∧W.cell? ⟨w1.heap.size,2,none⟩=some (.slice (some ad) m.length c1)∧W.cell? ⟨(ad.add (i*2)).block,(ad.add (i*2)).off+1,none⟩=some (.int .i64 (C:Nat))):=Lib.hid fun W gW=>by
  have hbk:∀z,(ad.add z).block<w1.heap.size:=fun z=>by rw[adB];exact hb
  obtain ⟨p0,p1⟩:=hc i (by rw[ints_len];exact HF.out.2.2.2.2)
  rw[ints_at m i HF.out.2.2.2.2] at p1
  simp only at p1
  rw[←cntS_at HF.out.2.2.2.2,←HF.out.2.2.1] at p1
  exact ⟨(Below.cell gW (p:=⟨w1.heap.size,0,none⟩) hz1).trans y0,(Below.cell gW (p:=⟨w1.heap.size,1,none⟩) hz1).trans y1,(Below.cell gW (p:=⟨w1.heap.size,2,none⟩) hz1).trans y2,(Below.cell (HK1.out.trans gW) (p:=⟨(ad.add (i*2)).block,(ad.add (i*2)).off+1,none⟩) (hbk _)).trans p1⟩
 have HOF:Hid (∀W,Gr V1 W→Calls Tryz.prog 59 #[.agg #[.int .i64 ag, .int .i64 xf, .slice (some ad) m.length c1], .int .i64 i] W fun e w'=>e= .returned (.int .i64 (of:Nat))∧Gr W w'):=Lib.hid fun W gW=>by
  rw[HF.out.2.2.2.1]
  exact rhoff_any ag xf (some ad) c1 m HF.out.2.1 i HF.out.2.2.2.2 W ((H1.out.2.1.gr HK1.out).gr gW)
 clear hb hc
 go_upto_region 8 with (fail)
 clear y0 y1 y2
 go_loopw [10,11] (fun v j wr=>∃q:Nat,q≤C∧j= .int .i64 q∧Gr V1 wr∧wr.ownsRow V1.heap.size 54 2 v q (pcells (L.take q))) (fun _ j _=>C-(intOf j).toNat)
 case atStart=>exact ⟨0,Nat.zero_le _,rfl,Gr.refl _,World.ownsRow_nil _ _ _ _⟩
 case round=>
  obtain ⟨q,hq,rfl,hgr,hown⟩:=hrel
  obtain ⟨y0,y1,y2,y3⟩:=HAR.out wr hgr
  obtain ⟨Aw,cw,hvw⟩:=own_form hown
  subst hvw
  by_cases hlt:q<C
  ·
   have hlti:(q:Int)<(C:Int):=by omega
   have hql:q<L.length:=by rw[HL.out.1];exact hlt
   have hx:=HL.out.2.1 q hql
   have htk:pcells (L.take (q+1))=pcells (L.take q)++pcells [L[q]]:=by rw[List.take_succ_eq_append_getElem hql,pcells_append]
   have hin:=HIN2.out q hlt
   have hu1:IntKind.i64.wrap (12*(q:Int))=((12*q:Nat):Int):=by rw[IntWalk.i64_in _ (by omega)];simp
   have hu2:IntKind.i64.wrap ((of:Int)+((12*q:Nat):Int))=((of+12*q:Nat):Int):=by rw[IntWalk.i64_in _ (by omega)];simp
   obtain ⟨at_,hat⟩:∃at_,at_=of+12*q:=⟨_,rfl⟩
   obtain ⟨qq,hqq⟩:∃qq,qq=12*q:=⟨_,rfl⟩
   rw[←hat] at hu2 hin
   rw[←hqq] at hu1 hu2
   rw[←HF.out.2.2.2.1,←hat] at hx
   obtain ⟨sl,hsl⟩:∃sl,sl=slotS D at_:=⟨_,rfl⟩
   have hsl12:sl.length=12:=by rw[hsl];unfold slotS;rw[List.length_take,List.length_drop];omega
   rw[←hsl] at hx
   obtain ⟨pt,pn,hp⟩:∃pt pn,L[q]=(pt,pn):=⟨_,_,rfl⟩
   rw[hp] at hx htk
   injection hx with hx1 hx2
   have HRD:Hid (∀W,Gr w W→Calls Tryz.prog 25 #[.pointer (some ⟨X,0,none⟩), .string nmA, .int .i64 (at_:Nat), .int .i64 12] W (RetBr sl W)):=Lib.hid fun W gW=>by
    rw[hsl];exact xread_part HD.out.1 at_ 12 (by decide) hin W (HD.out.2.gr gW)
   have HDE:Hid (∀A c W,12≤c→Rb W A sl→Calls Tryz.prog 60 #[.slice A sl.length c] W (RetPt true pt pn W)):=Lib.hid fun A c W hc hr=>by
    rw[hx1,hx2];exact xdec_any A c sl hsl12 hc W hr
   have HTK:=Lib.hid htk
   have HGR:=Lib.hid hgr
   have HGW:=Lib.hid (HGA.out.trans hgr)
   have HOW:=Lib.hid hown
   have HS12:=Lib.hid hsl12
   have hgz:=hgr.size
   clear hx1 hx2 hp htk hgr hown hat hqq hsl hsl12 hin
   go_upto_region 12 with (first|(go_at_call 59;refine (HOF.out _ HGR.out).mono ?_;rintro e w2 ⟨rfl,g2⟩;have HG2:=Lib.hid g2;clear g2)|(go_at_call 25;refine (HRD.out _ (HGW.out.trans HG2.out)).mono ?_;rintro e w3 ⟨A3,c3,rfl,hc3,ho3,g3⟩;have HR3:=Lib.hid (And.intro hc3 ho3);have HG3:=Lib.hid (HG2.out.trans g3);clear g3 hc3 ho3)|(go_at_call 60;refine (HDE.out A3 c3 _ (by have:=HR3.out.1;rw[HS12.out] at this;exact this) (Rb.own HR3.out.2)).mono ?_;rintro e w4 ⟨rfl,g4⟩;have HG4:=Lib.hid (HG3.out.trans g4);have hz4:=(HG3.out.trans g4).size;clear g4))
   obtain ⟨V5,hV5⟩:∃V5,V5=w4.alloc (.cells #[.int .i64 pt, .int .i64 pn] 54):=⟨_,rfl⟩
   have k5:Gr w4 V5:=by rw[hV5];exact Gr.alloc (Gr.refl w4) _
   have n0:V5.cell? ⟨w4.heap.size,0,none⟩=some (.int .i64 pt):=by rw[hV5];go_simp
   have n1:V5.cell? ⟨w4.heap.size,1,none⟩=some (.int .i64 pn):=by rw[hV5];go_simp
   have HG5:=Lib.hid (HG4.out.trans k5)
   have hz5:V1.heap.size≤V5.heap.size:=Nat.le_trans hgz (HG4.out.trans k5).size
   rw[←hV5]
   clear hV5 k5 y0 y1 y2 y3
   go_wp2_with (at_builtin;have own5:=own_grU (own_grU HOW.out HG5.out) (Gr.alloc (Gr.refl V5) (.cells #[.int .i64 pt, .int .i64 pn] 54));have hrx:Rd (V5.alloc (.cells #[.int .i64 pt, .int .i64 pn] 54)) 2 (some ⟨V5.heap.size,0,none⟩) 1 (pcells [(pt,pn)]):=Rd.newU (W:=V5) (n:=1) (size:=2) rfl 54 (pcells [(pt,pn)]) rfl;refine wpList_append_rd rfl (.tmp 61) (.tmp 63) 38 rfl V1.heap.size 54 v0 _ 2 16 Tryz.underlying38 hv0 vz0 vz1 vz2 rfl (by decide) _ q _ rfl own5 (some ⟨V5.heap.size,0,none⟩) 1 _ (pcells [(pt,pn)]) rfl hrx (pcells_one _) (by unfold maxLen;omega) (by omega) (by first|(simp;done)|(simp;omega)) ?_;intro v6 w6 own6 hgr6 hob6;have H6:=Lib.hid (And.intro own6 (((HGR.out.trans HG5.out).alloc _).grown hgr6 (fun k e=>(own5.lt k e).1)));clear own5 hrx own6 hgr6 hob6)
   go_roundw
   case rel=>
    refine ⟨q+1,by omega,by go_num,H6.out.2,?_⟩
    rw[HTK.out]
    exact H6.out.1
   case measure=>simp[intOf];omega
  ·
   have hqe:q=C:=by omega
   subst hqe
   have hrv:Ri wr Aw L:=by
    have h2:=hown
    rw[←HL.out.1,List.take_length] at h2
    exact Ri.ownP h2
   have HRV:=Lib.hid (And.intro hrv (HGA.out.trans hgr))
   clear hrv hgr hown
   go_wp2
   go_ret2
   exact ⟨HRV.out.2,Aw,cw,by rw[HL.out.1];rfl,HRV.out.1⟩
theorem wring_gone {Y:Nat→Prop} {F P M:Nat} {R:Option Nat} {room:Int} {n:Nat} (i:Int) (w:World) (h:FsM Y w F P M R room n none):Calls Tryz.prog 27 #[.pointer (some ⟨F,0,none⟩), .string nmA, .int .i64 i] w fun e w'=>e= .returned (.tuple #[.slice none 0 0, .int .i64 5])∧Gr w w':=by
 have HOP:=Lib.hid (open_gone w h)
 clear h
 go_enter Tryz.func27,Tryz.ntmps27
 go_wp2_with (go_at_call 44;refine HOP.out.mono ?_;rintro e w1 ⟨rfl,rfl⟩)
 go_ret2
 exact ⟨rfl,Gr.refl _⟩
theorem wring_bad {Y:Nat→Prop} {F P M:Nat} {R:Option Nat} {room:Int} {n:Nat} {D:List UInt8} (hD:(D.length:Int)≤1073741824) (ho:opS D=none) (i:Int) (w:World) (h:FsM Y w F P M R room n (some D)):Calls Tryz.prog 27 #[.pointer (some ⟨F,0,none⟩), .string nmA, .int .i64 i] w fun e w'=>e= .returned (.tuple #[.slice none 0 0, .int .i64 2])∧Gr w w':=by
 have HOP:=Lib.hid (open_any D hD w h)
 have HOD:=Lib.hid ho
 clear h hD ho
 go_enter Tryz.func27,Tryz.ntmps27
 go_wp2_with (go_at_call 44;refine HOP.out.mono ?_;rintro e w1 ⟨g1,h1⟩;rw[HOD.out] at h1;simp only at h1;subst h1;have HG1:=Lib.hid g1;clear g1)
 go_ret2
 exact ⟨rfl,HG1.out⟩
theorem wring_range {Y:Nat→Prop} {F P M:Nat} {R:Option Nat} {room:Int} {n:Nat} {D:List UInt8} {ag xf:Nat} {m:Arcs} (hD:(D.length:Int)≤1073741824) (ho:opS D=some (ag,xf,m)) (i:Int) (hi:¬(0≤i∧i<m.length)) (w:World) (h:FsM Y w F P M R room n (some D)):Calls Tryz.prog 27 #[.pointer (some ⟨F,0,none⟩), .string nmA, .int .i64 i] w fun e w'=>e= .returned (.tuple #[.slice none 0 0, .int .i64 1])∧Gr w w':=by
 have HOP:=Lib.hid (open_any D hD w h)
 have HOD:=Lib.hid ho
 clear h hD ho
 by_cases q1:i<0
 ·
  go_enter Tryz.func27,Tryz.ntmps27
  go_wp2_with (go_at_call 44;refine HOP.out.mono ?_;rintro e w1 ⟨g1,h1⟩;rw[HOD.out] at h1;obtain ⟨X,b,cc,g,d,rfl,hfi,hgw⟩:=h1;have H1:=Lib.hid (And.intro g1 hfi);have x0:=hfi.x0;have x1:=hfi.x1;have x2:=hfi.x2;clear g1 hfi hgw)
  go_ret2
  exact ⟨rfl,H1.out.1⟩
 ·
  have q2:(m.length:Int)≤i:=by omega
  go_enter Tryz.func27,Tryz.ntmps27
  go_wp2_with (go_at_call 44;refine HOP.out.mono ?_;rintro e w1 ⟨g1,h1⟩;rw[HOD.out] at h1;obtain ⟨X,b,cc,g,d,rfl,hfi,hgw⟩:=h1;have H1:=Lib.hid (And.intro g1 hfi);have x0:=hfi.x0;have x1:=hfi.x1;have x2:=hfi.x2;clear g1 hfi hgw)
  go_ret2
  exact ⟨rfl,H1.out.1⟩
theorem wring_any {Y:Nat→Prop} {F P M:Nat} {R:Option Nat} {room:Int} {n:Nat} {D:List UInt8} {ag xf:Nat} {m:Arcs} (hD:(D.length:Int)≤1073741824) (ho:opS D=some (ag,xf,m)) (i:Nat) (hi:i<m.length) (w:World) (h:FsM Y w F P M R room n (some D)):Calls Tryz.prog 27 #[.pointer (some ⟨F,0,none⟩), .string nmA, .int .i64 i] w (RetRg m D i w):=by
 obtain ⟨v0,hv0,vz0,vz1,vz2⟩:=info_parts info_point
 obtain ⟨-,hlen,hM⟩:=opS_of ho
 have hF:=MayF.ofH hM
 have HOP:=Lib.hid (open_any D hD w h)
 have HOD:=Lib.hid ho
 have hm8:(m.length:Int)≤8:=by have:=hF.l8;omega
 have hii:¬(i:Int)<0:=by omega
 have hil:¬(m.length:Int)≤(i:Int):=by omega
 have hil2:(i:Int)<(m.length:Int):=by omega
 have hil0:¬m.length≤i:=by omega
 have hil4:decide (m.length≤i)=false:=decide_eq_false hil0
 obtain ⟨L,hL⟩:∃L,L=ringS m D i:=⟨_,rfl⟩
 obtain ⟨C,hC⟩:∃C,C=cntS m i:=⟨_,rfl⟩
 have hLl:L.length=C:=by rw[hL];unfold ringS;rw[List.length_map,List.length_range,hC]
 have hLq:∀q (hq:q<L.length),L[q]=(decT (slotS D (offS m i+12*q)),decN (slotS D (offS m i+12*q))):=fun q hq=>by
  subst hL
  simp only[ringS,List.getElem_map,List.getElem_range]
 have HL:=Lib.hid (And.intro hLl (And.intro hLq hL))
 have hct:=hF.c1 i hi
 rw[←hC] at hct
 have hCi:(C:Int)≤16777216:=by omega
 have hsz:=hF.sz
 obtain ⟨of,hof⟩:∃of,of=offS m i:=⟨_,rfl⟩
 have HIN2:Hid (∀k,k<C→of+12*k+12≤D.length):=Lib.hid fun k hk=>by rw[hof,←hlen];exact ring_in hF hi (by rw[←hC];exact hk)
 have hDl:(D.length:Int)≤1048576:=by omega
 have HF:=Lib.hid (And.intro hF (And.intro hM (And.intro hC (And.intro hof hi))))
 have hwi:IntKind.i64.wrap (i:Int)=(i:Int):=IntWalk.i64_in _ (by omega)
 have HOF:Hid (∀b c W,m.length≤c→Ri W (some ⟨b,0,none⟩) (ints m)→Calls Tryz.prog 64 #[.agg #[.int .i64 ag, .int .i64 xf, .slice (some ⟨b,0,none⟩) m.length c], .int .i64 i] W fun e w'=>e= .returned (.int .i64 (of:Nat))∧Gr W w'):=Lib.hid fun b c W hc hr=>by
  rw[hof]
  exact offset_any ag xf (some ⟨b,0,none⟩) c m hM hc i hi W hr
 unfold RetRg
 rw[←hL]
 clear h hD ho hlen hM hF hL hLl hLq hct hsz hof hC hi
 go_enter Tryz.func27,Tryz.ntmps27
 go_upto_region 7 with (first|(go_at_call 44;refine HOP.out.mono ?_;rintro e w1 ⟨g1,h1⟩;rw[HOD.out] at h1;obtain ⟨X,b,cc,g,d,rfl,hfi,hgw⟩:=h1;have H1:=Lib.hid (And.intro g1 hfi);have x0:=hfi.x0;have x1:=hfi.x1;have x2:=hfi.x2;clear g1 hfi hgw)|(go_at_call 64;refine (HOF.out b cc _ H1.out.2.cap H1.out.2.ri).mono ?_;rintro e w2 ⟨rfl,g2⟩;have HF2:=Lib.hid (H1.out.2.gr g2);have HG2:=Lib.hid (H1.out.1.trans g2);clear g2 x0 x1 x2))
 have x2:=HF2.out.x2
 obtain ⟨a0,a1⟩:=HF2.out.arc HF.out.2.2.2.2
 rw[←HF.out.2.2.1] at a1
 go_upto_region 9 with (fail)
 clear x2 a0 a1
 go_loopw [11,51] (fun v j wr=>∃q:Nat,q≤C∧j= .int .i64 q∧Gr w2 wr∧wr.ownsRow w2.heap.size 54 2 v q (pcells (L.take q))) (fun _ j _=>C-(intOf j).toNat)
 case atStart=>exact ⟨0,Nat.zero_le _,rfl,Gr.refl _,World.ownsRow_nil _ _ _ _⟩
 case round=>
  obtain ⟨q,hq,rfl,hgr,hown⟩:=hrel
  have HFR:=Lib.hid (HF2.out.gr hgr)
  have x5:=HFR.out.x5
  obtain ⟨Aw,cw,hvw⟩:=own_form hown
  subst hvw
  by_cases hlt:q<C
  ·
   have hlti:(q:Int)<(C:Int):=by omega
   have hql:q<L.length:=by rw[HL.out.1];exact hlt
   have hx:=HL.out.2.1 q hql
   have htk:pcells (L.take (q+1))=pcells (L.take q)++pcells [L[q]]:=by rw[List.take_succ_eq_append_getElem hql,pcells_append]
   have hin:=HIN2.out q hlt
   have hcap:=own_capA HFR.out.row
   have hu1:IntKind.i64.wrap ((q:Int)*12)=((12*q:Nat):Int):=by rw[IntWalk.i64_in _ (by omega)];omega
   have hu2:IntKind.i64.wrap ((of:Int)+((12*q:Nat):Int))=((of+12*q:Nat):Int):=by rw[IntWalk.i64_in _ (by omega)];simp
   obtain ⟨k,hat⟩:∃k,k=of+12*q:=⟨_,rfl⟩
   obtain ⟨qq,hqq⟩:∃qq,qq=12*q:=⟨_,rfl⟩
   rw[←hat] at hu2 hin
   rw[←hqq] at hu1 hu2
   rw[←HF.out.2.2.2.1,←hat] at hx
   have hki:(k:Int)+12≤(D.length:Int):=by omega
   have hkd:(k:Int)+12≤(d:Int):=by omega
   have hw1:IntKind.i64.wrap ((k:Int)+12)=(k:Int)+12:=IntWalk.i64_in _ (by omega)
   have hw2:((k:Int)+12-(k:Int)).toNat=12:=by omega
   obtain ⟨pt,pn,hp⟩:∃pt pn,L[q]=(pt,pn):=⟨_,_,rfl⟩
   rw[hp] at hx htk
   injection hx with hx1 hx2
   have HDE:Hid (∀c',Calls Tryz.prog 65 #[.slice (some ⟨g,k,none⟩) 12 c'] wr (RetPt true pt pn wr)):=Lib.hid fun c'=>by
    have hsl:=HFR.out.slot hin
    have:=decode_any (some ⟨g,k,none⟩) c' (slotS D k) hsl.1 wr hsl.2
    rw[hsl.1,←hx1,←hx2] at this
    exact this
   have HTK:=Lib.hid htk
   have HGR:=Lib.hid hgr
   have HOW:=Lib.hid hown
   have hgz:=hgr.size
   clear hx1 hx2 hp htk hgr hown hat hqq hin hcap
   go_upto_region 12 with (go_at_call 65;refine (HDE.out _).mono ?_;rintro e w4 ⟨rfl,g4⟩;have HG4:=Lib.hid g4;have hz4:=g4.size;clear g4)
   obtain ⟨V5,hV5⟩:∃V5,V5=w4.alloc (.cells #[.int .i64 pt, .int .i64 pn] 54):=⟨_,rfl⟩
   have k5:Gr w4 V5:=by rw[hV5];exact Gr.alloc (Gr.refl w4) _
   have n0:V5.cell? ⟨w4.heap.size,0,none⟩=some (.int .i64 pt):=by rw[hV5];go_simp
   have n1:V5.cell? ⟨w4.heap.size,1,none⟩=some (.int .i64 pn):=by rw[hV5];go_simp
   have HG5:=Lib.hid (HG4.out.trans k5)
   have hz5:w2.heap.size≤V5.heap.size:=Nat.le_trans hgz (HG4.out.trans k5).size
   rw[←hV5]
   clear hV5 k5 x5
   go_wp2_with (at_builtin;have own5:=own_grU (own_grU HOW.out HG5.out) (Gr.alloc (Gr.refl V5) (.cells #[.int .i64 pt, .int .i64 pn] 54));have hrx:Rd (V5.alloc (.cells #[.int .i64 pt, .int .i64 pn] 54)) 2 (some ⟨V5.heap.size,0,none⟩) 1 (pcells [(pt,pn)]):=Rd.newU (W:=V5) (n:=1) (size:=2) rfl 54 (pcells [(pt,pn)]) rfl;refine wpList_append_rd rfl (.tmp 72) (.tmp 74) 38 rfl w2.heap.size 54 v0 _ 2 16 Tryz.underlying38 hv0 vz0 vz1 vz2 rfl (by decide) _ q _ rfl own5 (some ⟨V5.heap.size,0,none⟩) 1 _ (pcells [(pt,pn)]) rfl hrx (pcells_one _) (by unfold maxLen;omega) (by omega) (by first|(simp;done)|(simp;omega)) ?_;intro v6 w6 own6 hgr6 hob6;have H6:=Lib.hid (And.intro own6 (((HGR.out.trans HG5.out).alloc _).grown hgr6 (fun k e=>(own5.lt k e).1)));clear own5 hrx own6 hgr6 hob6)
   go_roundw
   case rel=>
    refine ⟨q+1,by omega,by go_num,H6.out.2,?_⟩
    rw[HTK.out]
    exact H6.out.1
   case measure=>simp[intOf];omega
  ·
   have hqe:q=C:=by omega
   subst hqe
   have hrv:Ri wr Aw L:=by
    have h2:=hown
    rw[←HL.out.1,List.take_length] at h2
    exact Ri.ownP h2
   have HRV:=Lib.hid (And.intro hrv (HG2.out.trans hgr))
   clear hrv hgr hown
   go_wp2
   go_ret2
   exact ⟨HRV.out.2,Aw,cw,by rw[HL.out.1];rfl,HRV.out.1⟩
def RetIw (D:List UInt8) (w:World) (e:Ending) (w':World):Prop:=
 Gr w w'∧match opS D with
  | none=>e= .returned (.tuple #[.agg #[.int .i64 0, .int .i64 0, .slice none 0 0], .int .i64 2])
  | some (ag,xf,m)=>∃A c,e= .returned (.tuple #[.agg #[.int .i64 (ag:Nat), .int .i64 (xf:Nat), .slice A m.length c], .int .i64 0])∧m.length≤c∧Ri w' A (ints m)
theorem RetIn.weak {D:List UInt8} {w:World} {e:Ending} {w':World} (h:RetIn D w e w'):RetIw D w e w':=by
 unfold RetIn at h
 unfold RetIw
 refine ⟨h.1,?_⟩
 have h2:=h.2
 cases e9:opS D with
 | none=>rw[e9] at h2;exact h2
 | some p=>
  obtain ⟨ag,xf,m⟩:=p
  rw[e9] at h2
  obtain ⟨A,c,e1,e2,e3, -⟩:=h2
  exact ⟨A,c,e1,e2,e3⟩
theorem winfo_none {Y:Nat→Prop} {F P M:Nat} {R:Option Nat} {room:Int} {n:Nat} (w:World) (h:FsM Y w F P M R room n none):Calls Tryz.prog 15 #[.pointer (some ⟨F,0,none⟩), .string nmA] w fun e w'=>e= .returned (.tuple #[.agg #[.int .i64 0, .int .i64 0, .slice none 0 0], .int .i64 5])∧Gr w w':=by
 obtain ⟨V,hV⟩:∃V,V=w.alloc (.cells #[.int .i64 0, .int .i64 0, .slice none 0 0] 24):=⟨_,rfl⟩
 have gV:Gr w V:=by rw[hV];exact Gr.alloc (Gr.refl w) _
 have hVb:HbS w.heap.size 0 0 V:=by rw[hV];exact HbS.new _
 have HV:=Lib.hid hV
 have HGV:=Lib.hid gV
 have HOP:=Lib.hid (open_gone V (h.gr gV))
 obtain ⟨hz,z0,z1,z2,f0,f1,f2⟩:=hVb
 clear h hV gV
 go_enter Tryz.func15,Tryz.ntmps15
 go_upto_region 1 with (fail)
 rw[←HV.out]
 clear HV
 go_wp2_with (go_at_call 44;refine HOP.out.mono ?_;rintro e w1 ⟨rfl,rfl⟩)
 refine bodyPost_ret (v:= .tuple #[.agg #[.int .i64 0, .int .i64 0, .slice none 0 0], .int .i64 5]) (by simp[results,Tryz.results15,go_sem, *]) rfl ?_
 exact ⟨rfl,((HGV.out.setCell (p:=⟨w.heap.size,0,none⟩) (Nat.le_refl _) _).setCell (p:=⟨w.heap.size,1,none⟩) (Nat.le_refl _) _).setCell (p:=⟨w.heap.size,2,none⟩) (Nat.le_refl _) _⟩
theorem winfo_any {Y:Nat→Prop} {F P M:Nat} {R:Option Nat} {room:Int} {n:Nat} (D:List UInt8) (hD:(D.length:Int)≤1073741824) (w:World) (h:FsM Y w F P M R room n (some D)):Calls Tryz.prog 15 #[.pointer (some ⟨F,0,none⟩), .string nmA] w (RetIw D w):=by
 obtain ⟨V,hV⟩:∃V,V=w.alloc (.cells #[.int .i64 0, .int .i64 0, .slice none 0 0] 24):=⟨_,rfl⟩
 have gV:Gr w V:=by rw[hV];exact Gr.alloc (Gr.refl w) _
 have hVb:HbS w.heap.size 0 0 V:=by rw[hV];exact HbS.new _
 have HV:=Lib.hid hV
 have HGV:=Lib.hid gV
 have HOP:=Lib.hid (open_any D hD V (h.gr gV))
 obtain ⟨oo,hoo⟩:∃oo,oo=opS D:=⟨_,rfl⟩
 have HOO:=Lib.hid hoo
 unfold RetIw
 rw[←hoo]
 cases oo with
 | none=>
  clear h hoo hV gV
  go_enter Tryz.func15,Tryz.ntmps15
  go_upto_region 1 with (fail)
  rw[←HV.out]
  clear HV
  go_wp2_with (go_at_call 44;refine HOP.out.mono ?_;rintro e w1 ⟨g1,h1⟩;rw[←HOO.out] at h1;simp only at h1;subst h1;obtain ⟨hz,z0,z1,z2,f0,f1,f2⟩:=hVb.gr g1;have HG1:=Lib.hid (HGV.out.trans g1);clear g1 hVb)
  refine bodyPost_ret (v:= .tuple #[.agg #[.int .i64 0, .int .i64 0, .slice none 0 0], .int .i64 2]) (by simp[results,Tryz.results15,go_sem, *]) rfl ?_
  exact ⟨((HG1.out.setCell (p:=⟨w.heap.size,0,none⟩) (Nat.le_refl _) _).setCell (p:=⟨w.heap.size,1,none⟩) (Nat.le_refl _) _).setCell (p:=⟨w.heap.size,2,none⟩) (Nat.le_refl _) _,rfl⟩
 | some p=>
  obtain ⟨ag,xf,m⟩:=p
  clear h hoo hV gV
  go_enter Tryz.func15,Tryz.ntmps15
  go_upto_region 1 with (fail)
  rw[←HV.out]
  clear HV
  go_wp2_with (go_at_call 44;refine HOP.out.mono ?_;rintro e w1 ⟨g1,h1⟩;rw[←HOO.out] at h1;obtain ⟨X,b,cc,g,d,rfl,hfi,hgw⟩:=h1;obtain ⟨hz,z0,z1,z2,f0,f1,f2⟩:=hVb.gr g1;have H1:=Lib.hid (And.intro (HGV.out.trans g1) hfi);have x0:=hfi.x0;have x1:=hfi.x1;have x2:=hfi.x2;have hzz:=hfi.lX;clear g1 hfi hgw hVb)
  have HNB:Hid (b≠w.heap.size):=Lib.hid (fun e=>by
   have hl:=MayF.ofH H1.out.2.may
   obtain ⟨a0, -⟩:=H1.out.2.arc (i:=0) hl.l1
   rw[e] at a0
   rw[show (0:Nat)*2=0 by rfl,z0] at a0
   have hs:=(hl.s1 0 hl.l1).1
   injection a0 with a0
   injection a0 with _ a0
   omega)
  refine bodyPost_ret (v:= .tuple #[.agg #[.int .i64 (ag:Nat), .int .i64 (xf:Nat), .slice (some ⟨b,0,none⟩) m.length cc], .int .i64 0]) (by simp[results,Tryz.results15,go_sem, *]) rfl ?_
  exact ⟨((H1.out.1.setCell (p:=⟨w.heap.size,0,none⟩) (Nat.le_refl _) _).setCell (p:=⟨w.heap.size,1,none⟩) (Nat.le_refl _) _).setCell (p:=⟨w.heap.size,2,none⟩) (Nat.le_refl _) _,some ⟨b,0,none⟩,cc,rfl,H1.out.2.cap,Ri.set3 (fun ad e=>by injection e with e;rw[←e];exact HNB.out) H1.out.2.ri⟩
section
open Go.RowKit Go.ChangeMaps Go.Maps
theorem wcreate_bad {Y:Nat→Prop} {F P M:Nat} {R:Option Nat} {room:Int} {n:Nat} {D:Option (List UInt8)} (ag xf:Int) (A:Option Addr) (c:Nat) (l:List (Int×Int)) (hll:l.length≤400) (hM:mayH ag xf l=false) (w:World) (h:FsM Y w F P M R room n D) (hr:Ri w A l):Calls Tryz.prog 11 #[.pointer (some ⟨F,0,none⟩), .string nmA, .agg #[.int .i64 ag, .int .i64 xf, .slice A l.length c]] w fun e w'=>e= .returned (.int .i64 1)∧Gr w w':=by
 obtain ⟨V,hV⟩:∃V,V=w.alloc (.cells #[.int .i64 ag, .int .i64 xf, .slice A l.length c] 24):=⟨_,rfl⟩
 have gV:Gr w V:=by rw[hV];exact Gr.alloc (Gr.refl w) _
 have c0:V.cell? ⟨w.heap.size,0,none⟩=some (.int .i64 ag):=by rw[hV];go_simp
 have c1:V.cell? ⟨w.heap.size,1,none⟩=some (.int .i64 xf):=by rw[hV];go_simp
 have c2:V.cell? ⟨w.heap.size,2,none⟩=some (.slice A l.length c):=by rw[hV];go_simp
 have HE:=Lib.hid (hencode_no ag xf A c l hll hM V (hr.gr gV))
 have HV:=Lib.hid hV
 have HG:=Lib.hid gV
 clear hV gV hr hM hll h
 go_enter Tryz.func11,Tryz.ntmps11
 go_upto_region 1 with (fail)
 rw[←HV.out]
 clear HV
 go_wp2_with (go_at_call 31;refine HE.out.mono ?_;rintro e w1 ⟨rfl,g1⟩;have HG1:=Lib.hid (HG.out.trans g1);clear g1)
 go_ret
 exact ⟨rfl,HG1.out⟩
end
section
open Go.RowKit Go.ChangeMaps Go.Maps
theorem wcreate_any {Y:Nat→Prop} {F P M:Nat} {R:Option Nat} {room:Int} {n:Nat} (ag xf:Nat) (A:Option Addr) (c:Nat) (m:List (Nat×Nat)) (hM:mayH ag xf (ints m)=true) (hcap:m.length≤c) (hn:n≤1000000) (hr1:(sizeS m:Int)≤room) (hr2:room≤1073741824) (w:World) (h:FsM Y w F P M R room n none) (hr:Ri w A (ints m)):Calls Tryz.prog 11 #[.pointer (some ⟨F,0,none⟩), .string nmA, .agg #[.int .i64 ag, .int .i64 xf, .slice A m.length c]] w fun e w'=>e= .returned (.int .i64 0)∧FsM Y w' F P M none room 0 (some (hdrS ag xf m++List.replicate (sizeS m-(16+12*m.length)) 0))∧Kp (Tch P M R) w w':=by
 obtain ⟨i0,hi0,hz0,hz1,hz2⟩:=info_parts info_u8
 obtain ⟨V,hV⟩:∃V,V=w.alloc (.cells #[.int .i64 ag, .int .i64 xf, .slice A m.length c] 24):=⟨_,rfl⟩
 have gV:Gr w V:=by rw[hV];exact Gr.alloc (Gr.refl w) _
 have hz:w.heap.size<V.heap.size:=by rw[hV];simp
 have c0:V.cell? ⟨w.heap.size,0,none⟩=some (.int .i64 ag):=by rw[hV];go_simp
 have c1:V.cell? ⟨w.heap.size,1,none⟩=some (.int .i64 xf):=by rw[hV];go_simp
 have c2:V.cell? ⟨w.heap.size,2,none⟩=some (.slice A m.length c):=by rw[hV];go_simp
 have HE:=Lib.hid (hencode_any ag xf A c m hM hcap V (hr.gr gV))
 have hf:=mayS_facts (m:=m) (by have h:=hM;unfold mayH at h;rw[Bool.and_eq_true,nats_ints] at h;exact h.2)
 have hss:=fun W (hW:Ri W A (ints m))=>hsize_any ag xf A c (ints m) (by rw[ints_len];omega) W hW
 rw[hM,nats_ints,ints_len] at hss
 have hsz:=sizeS_eq m
 have hsl:=hdrS_len ag xf m
 obtain ⟨S,hS⟩:∃S,S=sizeS m:=⟨_,rfl⟩
 obtain ⟨B,hB⟩:∃B,B=hdrS ag xf m:=⟨_,rfl⟩
 rw[←hS] at hss hsz hf hr1 ⊢
 rw[←hB] at hsl HE ⊢
 rw[←hsl] at hsz ⊢
 have hKS:(B.length:Int)≤(S:Int):=by omega
 have hSi:(S:Int)≤1048576:=by omega
 have hK0:B.length≤112:=by omega
 have hw1:IntKind.i64.wrap ((S:Int)-(B.length:Int))=(S:Int)-(B.length:Int):=IntWalk.i64_in _ (by omega)
 have hw2:¬(S:Int)-(B.length:Int)<0:=by omega
 obtain ⟨Z,hZ⟩:∃Z,Z=S-B.length:=⟨_,rfl⟩
 have hZi:(Z:Int)=(S:Int)-(B.length:Int):=by omega
 have hmk:=fun W=>make_bytes Z (by omega) W
 rw[hZi] at hmk
 rw[←hZ]
 have hB0:0<B.length:=by omega
 have hBZ:(B++List.replicate Z 0).length=S:=by rw[List.length_append,List.length_replicate];omega
 have HBZ:=Lib.hid hBZ
 have hZl:Z=(List.replicate Z (0:UInt8)).length:=by rw[List.length_replicate]
 have HZL:=Lib.hid hZl
 have HSR:Hid ((S:Int)≤room):=Lib.hid (by omega)
 clear hZ hZi hZl hBZ
 have HSS:=Lib.hid hss
 have HR:=Lib.hid (hr.gr gV)
 have HV:=Lib.hid hV
 have HG:=Lib.hid gV
 have H0:=Lib.hid (h.gr gV)
 have HX:=Lib.hid (And.intro hf (And.intro hsz (And.intro hS (And.intro hB hsl))))
 clear hV gV hr hM h hss hf hsz hS hB hsl
 go_enter Tryz.func11,Tryz.ntmps11
 go_upto_region 1 with (fail)
 rw[←HV.out]
 clear HV
 go_upto_region 6 with (go_at_call 31;refine HE.out.mono ?_;rintro e w1 ⟨A5,c5,rfl,hc5,hb5,g1,hf5⟩;have d0:=(Below.cell g1 (p:=⟨w.heap.size,0,none⟩) hz).trans c0;have d1:=(Below.cell g1 (p:=⟨w.heap.size,1,none⟩) hz).trans c1;have d2:=(Below.cell g1 (p:=⟨w.heap.size,2,none⟩) hz).trans c2;have HG1:=Lib.hid g1;obtain ⟨p5,rfl,hp5, -⟩:=hb5.2 hB0;have HB5:=Lib.hid (And.intro hb5 hp5);clear g1 hb5 hf5 hp5)
 go_wp2_with (first|(go_at_call 32;refine (HSS.out _ (HR.out.gr HG1.out)).mono ?_;rintro e w2 ⟨rfl,g2⟩;have HG2:=Lib.hid (HG1.out.trans g2);have HB2:=Lib.hid (HB5.out.1.gr g2);clear g2)|(go_at_call 19;refine (fcreate_two (w2.heap.size+1) 2 B (List.replicate Z 0) hB0 (by rw[HBZ.out];exact HSR.out) hr2 hn (by omega) _ ((H0.out.gr HG2.out).gr (two_parts w2 B (List.replicate Z 0) p5 c5 HB2.out Z HZL.out).2) (two_parts w2 B (List.replicate Z 0) p5 c5 HB2.out Z HZL.out).1).mono ?_;rintro e w8 ⟨rfl,R',hF,hK,hf⟩;have H8:=Lib.hid (And.intro hF (And.intro (hK.size) (And.intro hf ((Kp.of_gr (Tch P M R) (HG.out.trans (HG2.out.trans (two_parts w2 B (List.replicate Z 0) p5 c5 HB2.out Z HZL.out).2))).trans hK (fun _ _ e=>e)))));clear hF hK hf)|(go_at_call 33;refine (sync_any _ H8.out.1).mono ?_;rintro e w9 ⟨rfl,hF,hK⟩;have H9:=Lib.hid (And.intro hF (H8.out.2.2.2.trans hK (fun _ _ e=> .inl e)));clear hF hK))
 go_ret
 exact ⟨rfl,H9.out⟩
end
section
open Go.RowKit Go.ChangeMaps Go.Maps
theorem wcreate_has {Y:Nat→Prop} {F P M:Nat} {R:Option Nat} {room:Int} {n:Nat} {D:List UInt8} (ag xf:Nat) (A:Option Addr) (c:Nat) (m:List (Nat×Nat)) (hM:mayH ag xf (ints m)=true) (hcap:m.length≤c) (w:World) (h:FsM Y w F P M R room n (some D)) (hr:Ri w A (ints m)):Calls Tryz.prog 11 #[.pointer (some ⟨F,0,none⟩), .string nmA, .agg #[.int .i64 ag, .int .i64 xf, .slice A m.length c]] w fun e w'=>e= .returned (.int .i64 6)∧Gr w w':=by
 obtain ⟨i0,hi0,hz0,hz1,hz2⟩:=info_parts info_u8
 obtain ⟨V,hV⟩:∃V,V=w.alloc (.cells #[.int .i64 ag, .int .i64 xf, .slice A m.length c] 24):=⟨_,rfl⟩
 have gV:Gr w V:=by rw[hV];exact Gr.alloc (Gr.refl w) _
 have hz:w.heap.size<V.heap.size:=by rw[hV];simp
 have c0:V.cell? ⟨w.heap.size,0,none⟩=some (.int .i64 ag):=by rw[hV];go_simp
 have c1:V.cell? ⟨w.heap.size,1,none⟩=some (.int .i64 xf):=by rw[hV];go_simp
 have c2:V.cell? ⟨w.heap.size,2,none⟩=some (.slice A m.length c):=by rw[hV];go_simp
 have HE:=Lib.hid (hencode_any ag xf A c m hM hcap V (hr.gr gV))
 have hf:=mayS_facts (m:=m) (by have h:=hM;unfold mayH at h;rw[Bool.and_eq_true,nats_ints] at h;exact h.2)
 have hss:=fun W (hW:Ri W A (ints m))=>hsize_any ag xf A c (ints m) (by rw[ints_len];omega) W hW
 rw[hM,nats_ints,ints_len] at hss
 have hsz:=sizeS_eq m
 have hsl:=hdrS_len ag xf m
 obtain ⟨S,hS⟩:∃S,S=sizeS m:=⟨_,rfl⟩
 obtain ⟨B,hB⟩:∃B,B=hdrS ag xf m:=⟨_,rfl⟩
 rw[←hS] at hss hsz hf
 rw[←hB] at hsl HE
 rw[←hsl] at hsz
 have hKS:(B.length:Int)≤(S:Int):=by omega
 have hSi:(S:Int)≤1048576:=by omega
 have hK0:B.length≤112:=by omega
 have hw1:IntKind.i64.wrap ((S:Int)-(B.length:Int))=(S:Int)-(B.length:Int):=IntWalk.i64_in _ (by omega)
 have hw2:¬(S:Int)-(B.length:Int)<0:=by omega
 obtain ⟨Z,hZ⟩:∃Z,Z=S-B.length:=⟨_,rfl⟩
 have hZi:(Z:Int)=(S:Int)-(B.length:Int):=by omega
 have hmk:=fun W=>make_bytes Z (by omega) W
 rw[hZi] at hmk
 have hB0:0<B.length:=by omega
 have hBZ:(B++List.replicate Z 0).length=S:=by rw[List.length_append,List.length_replicate];omega
 have HBZ:=Lib.hid hBZ
 have hZl:Z=(List.replicate Z (0:UInt8)).length:=by rw[List.length_replicate]
 have HZL:=Lib.hid hZl
 clear hZ hZi hZl hBZ
 have HSS:=Lib.hid hss
 have HR:=Lib.hid (hr.gr gV)
 have HV:=Lib.hid hV
 have HG:=Lib.hid gV
 have H0:=Lib.hid (h.gr gV)
 have HX:=Lib.hid (And.intro hf (And.intro hsz (And.intro hS (And.intro hB hsl))))
 clear hV gV hr hM h hss hf hsz hS hB hsl
 go_enter Tryz.func11,Tryz.ntmps11
 go_upto_region 1 with (fail)
 rw[←HV.out]
 clear HV
 go_upto_region 6 with (go_at_call 31;refine HE.out.mono ?_;rintro e w1 ⟨A5,c5,rfl,hc5,hb5,g1,hf5⟩;have d0:=(Below.cell g1 (p:=⟨w.heap.size,0,none⟩) hz).trans c0;have d1:=(Below.cell g1 (p:=⟨w.heap.size,1,none⟩) hz).trans c1;have d2:=(Below.cell g1 (p:=⟨w.heap.size,2,none⟩) hz).trans c2;have HG1:=Lib.hid g1;obtain ⟨p5,rfl,hp5, -⟩:=hb5.2 hB0;have HB5:=Lib.hid (And.intro hb5 hp5);clear g1 hb5 hf5 hp5)
 go_wp2_with (first|(go_at_call 32;refine (HSS.out _ (HR.out.gr HG1.out)).mono ?_;rintro e w2 ⟨rfl,g2⟩;have HG2:=Lib.hid (HG1.out.trans g2);have HB2:=Lib.hid (HB5.out.1.gr g2);clear g2)|(go_at_call 19;refine (fcreate_has _ _ ((H0.out.gr HG2.out).gr (two_parts w2 B (List.replicate Z 0) p5 c5 HB2.out Z HZL.out).2)).mono ?_;rintro e w8 ⟨rfl,rfl⟩;have H8:=Lib.hid (HG.out.trans (HG2.out.trans (two_parts w2 B (List.replicate Z 0) p5 c5 HB2.out Z HZL.out).2))))
 go_ret
 exact ⟨rfl,H8.out⟩
theorem pend_any {Y:Nat→Prop} {F P M:Nat} {R:Option Nat} {room:Int} {n:Nat} {D:Option (List UInt8)} (w:World) (h:FsM Y w F P M R room n D):Calls Tryz.prog 42 #[.pointer (some ⟨F,0,none⟩)] w fun e w'=>e= .returned (.int .i64 n)∧w=w':=by
 have f0:=h.f0
 obtain ⟨v,xs,v1, -,v3⟩:=h.p0
 obtain ⟨A,c,hv⟩:=own_form v3
 subst hv
 have hp:Calls Tryz.prog 80 #[.pointer (some ⟨P,0,none⟩)] w fun e w'=>e= .returned (.int .i64 n)∧w=w':=by
  clear h v3 f0
  go_enter Tryz.func80,Tryz.ntmps80
  go_wp2
  go_ret
  exact ⟨rfl,rfl⟩
 have HP:=Lib.hid hp
 clear h v3 v1 hp
 go_enter Tryz.func42,Tryz.ntmps42
 go_wp2_with (go_at_call 80;refine HP.out.mono ?_;rintro e w1 ⟨rfl,rfl⟩)
 go_ret
 exact ⟨rfl,rfl⟩
end
theorem Ri.cells {w:World} {A:Option Addr} {l:List (Int×Int)} (h:Ri w A l) (h0:0<l.length):∃ad,A=some ad∧∀k (hk:k<l.length) W,Gr w W→W.cell? (ad.add (k*2))=some (.int .i64 l[k].1)∧W.cell? ⟨(ad.add (k*2)).block,(ad.add (k*2)).off+1,none⟩=some (.int .i64 l[k].2):=by
 obtain ⟨ad,e,hb,hc⟩:=h h0
 have hbk:∀z,(ad.add z).block<w.heap.size:=fun z=>by rw[adB];exact hb
 exact ⟨ad,e,fun k hk W g=>⟨(Below.cell g (p:=ad.add (k*2)) (hbk _)).trans (hc k hk).1,(Below.cell g (p:=⟨(ad.add (k*2)).block,(ad.add (k*2)).off+1,none⟩) (hbk _)).trans (hc k hk).2⟩⟩
theorem headers_same (ag xf:Int) (A A':Option Addr) (c c':Nat) (l:List (Int×Int)) (hl:l.length≤1000000) (w:World) (hr:Ri w A l) (hr':Ri w A' l):Calls Tryz.prog 17 #[.agg #[.int .i64 ag, .int .i64 xf, .slice A l.length c], .agg #[.int .i64 ag, .int .i64 xf, .slice A' l.length c']] w fun e w'=>e= .returned (.bool true)∧Gr w w':=by
 obtain ⟨V1,hV1⟩:∃V1,V1=w.alloc (.cells #[.int .i64 ag, .int .i64 xf, .slice A l.length c] 24):=⟨_,rfl⟩
 have gV1:Gr w V1:=by rw[hV1];exact Gr.alloc (Gr.refl w) _
 have zV1:w.heap.size<V1.heap.size:=by rw[hV1];simp
 have b0:V1.cell? ⟨w.heap.size,0,none⟩=some (.int .i64 ag):=by rw[hV1];go_simp
 have b1:V1.cell? ⟨w.heap.size,1,none⟩=some (.int .i64 xf):=by rw[hV1];go_simp
 have b2:V1.cell? ⟨w.heap.size,2,none⟩=some (.slice A l.length c):=by rw[hV1];go_simp
 obtain ⟨V2,hV2⟩:∃V2,V2=V1.alloc (.cells #[.int .i64 ag, .int .i64 xf, .slice A' l.length c'] 24):=⟨_,rfl⟩
 have gV2:Gr V1 V2:=by rw[hV2];exact Gr.alloc (Gr.refl V1) _
 have zV2:V1.heap.size<V2.heap.size:=by rw[hV2];simp
 have d0:V2.cell? ⟨V1.heap.size,0,none⟩=some (.int .i64 ag):=by rw[hV2];go_simp
 have d1:V2.cell? ⟨V1.heap.size,1,none⟩=some (.int .i64 xf):=by rw[hV2];go_simp
 have d2:V2.cell? ⟨V1.heap.size,2,none⟩=some (.slice A' l.length c'):=by rw[hV2];go_simp
 have HV:=Lib.hid hV2
 have HG:=Lib.hid (gV1.trans gV2)
 have e0:=(Below.cell gV2 (p:=⟨w.heap.size,0,none⟩) zV1).trans b0
 have e1:=(Below.cell gV2 (p:=⟨w.heap.size,1,none⟩) zV1).trans b1
 have e2:=(Below.cell gV2 (p:=⟨w.heap.size,2,none⟩) zV1).trans b2
 have HB:Hid (∀W,Gr V2 W→W.cell? ⟨w.heap.size,2,none⟩=some (.slice A l.length c)∧W.cell? ⟨V1.heap.size,2,none⟩=some (.slice A' l.length c')):=Lib.hid fun W g=>⟨(Below.cell g (p:=⟨w.heap.size,2,none⟩) (Nat.lt_of_lt_of_le zV1 gV2.size)).trans e2,(Below.cell g (p:=⟨V1.heap.size,2,none⟩) zV2).trans d2⟩
 have HR:=Lib.hid (And.intro (hr.gr (gV1.trans gV2)) (hr'.gr (gV1.trans gV2)))
 have hli:(l.length:Int)≤1000000:=by omega
 have hb1:V1.heap.size=w.heap.size+1:=by rw[hV1];simp
 rw[hb1] at d0 d1 d2 HB zV2
 clear hr hr' b0 b1 b2
 rw[hV1] at hV2
 have HV:=Lib.hid hV2
 clear hV1 hV2 gV1 gV2 hb1
 go_enter Tryz.func17,Tryz.ntmps17
 go_upto_region 1 with (fail)
 rw[←HV.out]
 clear HV
 go_upto_region 4 with (fail)
 clear e0 e1 d0 d1 d2 e2
 go_loopw [5] (fun k wr=>∃q:Nat,q≤l.length∧k= .int .i64 q∧Gr V2 wr) (fun k _=>l.length-(intOf k).toNat)
 case atStart=>exact ⟨0,Nat.zero_le _,rfl,Gr.refl _⟩
 case round=>
  obtain ⟨q,hq,rfl,hgr⟩:=hrel
  obtain ⟨u2,v2⟩:=HB.out wr hgr
  by_cases hlt:q<l.length
  ·
   have hlti:(q:Int)<(l.length:Int):=by omega
   obtain ⟨ad,rfl,hp⟩:=Ri.cells (HR.out.1.gr hgr) (by omega)
   obtain ⟨ad',rfl,hp'⟩:=Ri.cells (HR.out.2.gr hgr) (by omega)
   obtain ⟨x,hx⟩:∃x,x=l[q].1:=⟨_,rfl⟩
   obtain ⟨y,hy⟩:∃y,y=l[q].2:=⟨_,rfl⟩
   have hp:=hp q hlt
   have hp':=hp' q hlt
   rw[←hx,←hy] at hp hp'
   have HP:=Lib.hid hp
   have HQ:=Lib.hid hp'
   have HBR:=Lib.hid (fun W (g:Gr wr W)=>HB.out W (hgr.trans g))
   have HGR:=Lib.hid hgr
   have hwq:IntKind.i64.wrap (q:Int)=(q:Int):=IntWalk.i64_in _ (by omega)
   clear hp hp' hx hy hgr
   go_upto_region 6 with (fail)
   clear u2 v2
   refine region_R (by kernel_rfl) (by kernel_rfl) ?_
   refine rv ?_;simp only[Pu]
   refine r_val (v:=?qv2) (by kernel_rfl) (fun W hW=>?qh2) ?qr2
   case qh2=>have u2:=(HBR.out W hW).1;go_light;go_simp;rfl
   simp only[Pu]
   iterate 2 (refine rv ?_;simp only[Pu])
   refine r_val (v:=?qv5) (by kernel_rfl) (fun W hW=>?qh5) ?qr5
   case qh5=>obtain ⟨p0,p1⟩:=HP.out W hW;go_light;go_simp;rfl
   simp only[Pu]
   refine rv ?_;simp only[Pu]
   refine r_val (v:=?qv7) (by kernel_rfl) (fun W hW=>?qh7) ?qr7
   case qh7=>have v2:=(HBR.out W hW).2;go_light;go_simp;rfl
   simp only[Pu]
   iterate 2 (refine rv ?_;simp only[Pu])
   refine r_val (v:=?qv10) (by kernel_rfl) (fun W hW=>?qh10) ?qr10
   case qh10=>obtain ⟨p0,p1⟩:=HQ.out W hW;go_light;go_simp;rfl
   simp only[Pu]
   refine rv ?_;simp only[Pu]
   refine r_nil ?_
   intro w5 g5
   have HG5:=Lib.hid (HGR.out.trans g5)
   clear g5
   go_wp2
   go_roundw
   case rel=>exact ⟨q+1,by omega,by go_num,HG5.out⟩
   case measure=>simp[intOf];omega
  ·
   have hqe:q=l.length:=by omega
   have HGR:=Lib.hid (HG.out.trans hgr)
   have hlti:¬(q:Int)<(l.length:Int):=by omega
   clear hgr
   go_wp2
   go_ret
   exact ⟨rfl,HGR.out⟩
theorem bytes_none {Y Y2:Nat→Prop} {F P M X:Nat} {R R2:Option Nat} {room room2:Int} {n:Nat} (w:World) (h:FsM Y w F P M R room n none) (h2:RsM Y2 w X R2 room2 n none):Calls Tryz.prog 14 #[.pointer (some ⟨F,0,none⟩), .pointer (some ⟨X,0,none⟩)] w fun e w'=>e= .returned (.bool true)∧Gr w w':=by
 have HS1:=Lib.hid (size_none w h)
 have HS2:=Lib.hid (xsize_none w h2)
 have HR1:=Lib.hid (read_none 0 0 w h)
 have HR2:=Lib.hid (xread_none 0 0 w h2)
 have HP1:=Lib.hid (pend_any w h)
 have HP2:=Lib.hid (xpend_any w h2)
 have hcn:(convert 49 9 (.slice none 0 0)).run Tryz.prog w= .ok (.string ⟨#[]⟩) w:=conv_bytes (A:=none) (c:=0) (l:=[]) (Gr.refl w) ⟨rfl,fun h=>absurd h (by simp)⟩
 clear h h2
 go_enter Tryz.func14,Tryz.ntmps14
 go_wp2_with (first|(go_at_call 40;refine HS1.out.mono ?_;rintro e w1 ⟨rfl,rfl⟩)|(go_at_call 24;refine HS2.out.mono ?_;rintro e w1 ⟨rfl,rfl⟩)|(go_at_call 41;refine HR1.out.mono ?_;rintro e w1 ⟨rfl,rfl⟩)|(go_at_call 25;refine HR2.out.mono ?_;rintro e w1 ⟨rfl,rfl⟩)|(go_at_call 42;refine HP1.out.mono ?_;rintro e w1 ⟨rfl,rfl⟩)|(go_at_call 43;refine HP2.out.mono ?_;rintro e w1 ⟨rfl,rfl⟩))
 go_ret
 exact ⟨by simp,Gr.refl _⟩
theorem bytes_some {Y Y2:Nat→Prop} {F P M X:Nat} {R R2:Option Nat} {room room2:Int} {n:Nat} {l:List UInt8} (hl:(l.length:Int)≤1073741824) (w:World) (h:FsM Y w F P M R room n (some l)) (h2:RsM Y2 w X R2 room2 n (some l)):Calls Tryz.prog 14 #[.pointer (some ⟨F,0,none⟩), .pointer (some ⟨X,0,none⟩)] w fun e w'=>e= .returned (.bool true)∧Gr w w':=by
 have HS1:=Lib.hid (fsize_some w h)
 have HS2:=Lib.hid (xsize_some w h2)
 have HR1:=Lib.hid (read_gen hl w h)
 have HR2:=Lib.hid (fun W (g:Gr w W)=>xread_all hl W (h2.gr g))
 have HP1:=Lib.hid (fun W (g:Gr w W)=>pend_any W (h.gr g))
 have HP2:=Lib.hid (fun W (g:Gr w W)=>xpend_any W (h2.gr g))
 clear h h2
 go_enter Tryz.func14,Tryz.ntmps14
 go_upto_region 5 with (first|(go_at_call 40;refine HS1.out.mono ?_;rintro e w1 ⟨rfl,rfl⟩)|(go_at_call 24;refine HS2.out.mono ?_;rintro e w1 ⟨rfl,rfl⟩)|(go_at_call 41;refine HR1.out.mono ?_;rintro e w2 ⟨A2,d,rfl, -, -, -,hr, -,g2⟩;have H2:=Lib.hid (And.intro g2 hr);clear hr g2)|(go_at_call 25;refine (HR2.out _ H2.out.1).mono ?_;rintro e w3 ⟨A3,c3,rfl,hc3,ho3,g3⟩;have H3:=Lib.hid (And.intro (H2.out.1.trans g3) (And.intro (H2.out.2.gr g3) (Rb.own ho3)));clear hc3 ho3 g3))
 have hc1:=conv_bytes (W:=w3) (c:=d) (Gr.refl _) H3.out.2.1
 have hc2:=conv_bytes (W:=w3) (c:=c3) (Gr.refl _) H3.out.2.2
 go_wp2_with (first|(go_at_call 42;refine (HP1.out _ H3.out.1).mono ?_;rintro e w1 ⟨rfl,rfl⟩)|(go_at_call 43;refine (HP2.out _ H3.out.1).mono ?_;rintro e w1 ⟨rfl,rfl⟩))
 go_ret
 exact ⟨by simp,H3.out.1⟩
theorem FsM.withY2 {Y Y':Nat→Prop} {w:World} {F P M:Nat} {R:Option Nat} {room:Int} {n:Nat} {D:List UInt8} (h:FsM Y w F P M R room n (some D)) (h0:0<D.length) (h2:∀k,Y' k→k<w.heap.size) (hc:∀k,Y' k→∃z,w.cell? ⟨k,0,none⟩=some (.int .i64 z)):FsM Y' w F P M R room n (some D):=by
 refine ⟨h.lf,h.lp,h.lm,h.nfp,h.nfm,h.npm,h.f0,h.f1,h.f2,h.p0,h.p1,h.z0,h.z1,h.rr,h2,?_⟩
 obtain ⟨clk,born,A,c,hb,hcc,hr,hx⟩:=h.mp
 obtain ⟨q,rfl,hq,hx⟩:=hx.pos h0
 refine ⟨clk,born,_,c,hb,hcc,hr, .inr ⟨q,rfl,hq,hx.1,hx.2.1,hx.2.2.1,fun e=>?_⟩⟩
 obtain ⟨z,hz⟩:=hc q e
 obtain ⟨ad,e2, -,hcell⟩:=hr.at h0
 injection e2 with e2
 subst e2
 have:(⟨q,0,none⟩:Addr).add 0=⟨q,0,none⟩:=rfl
 rw[this,hz] at hcell
 injection hcell with hcell
 injection hcell with hk
 cases hk
structure Par (w:World) (F P M X:Nat) (R R2:Option Nat) (n n2:Nat) (room:Int) (D E:Option (List UInt8)):Prop where
 fs:FsM (fun k=>k=X∨R2=some k) w F P M R room n D
 rs:RsM (fun k=>k=F∨k=P∨k=M∨R=some k) w X R2 room n2 E
 r0:∀k,R2=some k→∃z,w.cell? ⟨k,0,none⟩=some (.int .i64 z)
theorem Par.apart {w:World} {F P M X:Nat} {R R2:Option Nat} {n n2:Nat} {room:Int} {D E:Option (List UInt8)} (h:Par w F P M X R R2 n n2 room D E):(X≠F∧X≠P∧X≠M∧R≠some X)∧∀k,R2=some k→k≠F∧k≠P∧k≠M∧R≠some k:=
 ⟨⟨fun e=>h.rs.nY (.inl e),fun e=>h.rs.nY (.inr (.inl e)),fun e=>h.rs.nY (.inr (.inr (.inl e))),fun e=>h.rs.nY (.inr (.inr (.inr e)))⟩,fun k hk=>⟨fun e=>h.rs.rY k hk (.inl e),fun e=>h.rs.rY k hk (.inr (.inl e)),fun e=>h.rs.rY k hk (.inr (.inr (.inl e))),fun e=>h.rs.rY k hk (.inr (.inr (.inr e)))⟩⟩
theorem Par.gr {w w':World} {F P M X:Nat} {R R2:Option Nat} {n n2:Nat} {room:Int} {D E:Option (List UInt8)} (h:Par w F P M X R R2 n n2 room D E) (g:Gr w w'):Par w' F P M X R R2 n n2 room D E:=⟨h.fs.gr g,h.rs.gr g,fun k e=>by
 obtain ⟨z,hz⟩:=h.r0 k e
 exact ⟨z,(Below.cell g (p:=⟨k,0,none⟩) (h.rs.lR k e)).trans hz⟩⟩
theorem Par.left {Y:Nat→Prop} {w w':World} {F P M X:Nat} {R R2:Option Nat} {n n2:Nat} {room:Int} {D E:Option (List UInt8)} {L:List UInt8} (h:Par w F P M X R R2 n n2 room D E) (hf:FsM Y w' F P M none room 0 (some L)) (h0:0<L.length) (k:Kp (Tch P M R) w w'):Par w' F P M X none R2 0 n2 room (some L) E:=by
 have hr:=h.rs.kp k (fun g _ e=>by
  rcases e with e|e|e
  ·
   exact .inr (.inl e)
  ·
   exact .inr (.inr (.inl e))
  ·
   exact .inr (.inr (.inr e)))
 have hr0:∀q,R2=some q→∃z,w'.cell? ⟨q,0,none⟩=some (.int .i64 z):=fun q e=>by
  obtain ⟨z,hz⟩:=h.r0 q e
  obtain ⟨a1,a2,a3,a4⟩:=h.apart.2 q e
  exact ⟨z,(k.cell (a:=⟨q,0,none⟩) (h.rs.lR q e) (fun e=>by
   rcases e with e|e|e
   ·
    exact a2 e
   ·
    exact a3 e
   ·
    exact a4 e)).trans hz⟩
 refine ⟨hf.withY2 h0 (fun q e=>?_) (fun q e=>?_),hr.weak (fun q e=>?_),hr0⟩
 ·
  rcases e with e|e
  ·
   subst e;exact hr.lX
  ·
   exact hr.lR q e
 ·
  rcases e with e|e
  ·
   subst e;exact ⟨_,hr.x0⟩
  ·
   exact hr0 q e
 ·
  rcases e with e|e|e|e
  ·
   exact .inl e
  ·
   exact .inr (.inl e)
  ·
   exact .inr (.inr (.inl e))
  ·
   cases e
theorem Par.right {w w':World} {F P M X:Nat} {R R2:Option Nat} {n n2:Nat} {room:Int} {D E E':Option (List UInt8)} (h:Par w F P M X R R2 n n2 room D E) (hr:RsM (fun k=>k=F∨k=P∨k=M∨R=some k) w' X none room 0 E') (k:Kp (Xch X R2) w w'):Par w' F P M X R none n 0 room D E':=by
 obtain ⟨⟨a1,a2,a3,a4⟩,b⟩:=h.apart
 have hn:∀q,q≠X→(R2=some q→False)→¬Xch X R2 q:=fun q h1 h2 e=>by
  rcases e with e|e
  ·
   exact h1 e
  ·
   exact h2 e
 refine ⟨(h.fs.kp k (hn F (fun e=>a1 e.symm) (fun e=>(b F e).1 rfl)) (hn P (fun e=>a2 e.symm) (fun e=>(b P e).2.1 rfl)) (hn M (fun e=>a3 e.symm) (fun e=>(b M e).2.2.1 rfl)) (fun i e=>hn i (fun e2=>a4 (e2▸e)) (fun e2=>(b i e2).2.2.2 e)) (fun g _ e=> .inr (.inr (.inr (.inr (.inr (.inr e))))))).more (Gr.refl w') (fun q e=>?_) (fun q e=>?_),hr,fun q e=>by cases e⟩
 ·
  rcases e with e|e
  ·
   exact .inl (.inl e)
  ·
   cases e
 ·
  rcases e with e|e
  ·
   rw[e];exact hr.lX
  ·
   cases e
end Go.Proofs.YtoncapkmaeghfaaGreat
