import Derived.Test.YtoncapkmaeghfaaGreatRunRwPas
import Derived.Test.YtoncapkmaeghfaaGreatRunRwDec
import Derived.Test.YtoncapkmaeghfaaGreatRunWiGat
import Derived.Test.YtoncapkmaeghfaaGreatRunVfDoes
import Derived.Laws.MakeOwn
import Derived.Test.YtoncapkmaeghfaaGreatRunVfFs
import Derived.Test.YtoncapkmaeghfaaGreatRunRwEnc
import Derived.Test.YtoncapkmaeghfaaGreatRunRwDo
import Derived.Shelf.SlMaps.Clone
set_option linter.all false
set_option maxRecDepth 1000000
set_option maxHeartbeats 12800000
namespace Go.Proofs.YtoncapkmaeghfaaGreat
open Go.RowKit
theorem Ri.set {w:World} {A:Option Addr} {l:List (Int×Int)} {p:Addr} (hn:∀ad,A=some ad→ad.block≠p.block) (h:Ri w A l) (v:Value):Ri (w.setCell p v) A l:=fun h0=>by
 obtain ⟨ad,e,hb,hc⟩:=h h0
 have hne:=hn ad e
 have k:Kp (fun q=>q=p.block) w (w.setCell p v):=(Kp.refl (fun q=>q=p.block) w).set (.inl rfl) v
 have hbk:∀z,(ad.add z).block<w.heap.size:=fun z=>by rw[adB];exact hb
 have hnk:∀z,¬(ad.add z).block=p.block:=fun z=>by rw[adB];exact hne
 exact ⟨ad,e,Nat.lt_of_lt_of_le hb k.size,fun j hj=>⟨(k.cell (a:=ad.add (j*2)) (hbk _) (hnk _)).trans (hc j hj).1,(k.cell (a:=⟨(ad.add (j*2)).block,(ad.add (j*2)).off+1,none⟩) (hbk _) (hnk _)).trans (hc j hj).2⟩⟩
theorem Ri.set3 {w:World} {A:Option Addr} {l:List (Int×Int)} {b:Nat} (hn:∀ad,A=some ad→ad.block≠b) (h:Ri w A l) {u0 u1 u2:Value}:Ri (((w.setCell ⟨b,0,none⟩ u0).setCell ⟨b,1,none⟩ u1).setCell ⟨b,2,none⟩ u2) A l:=Ri.set (p:=⟨b,2,none⟩) hn (Ri.set (p:=⟨b,1,none⟩) hn (Ri.set (p:=⟨b,0,none⟩) hn h u0) u1) u2
def RetIn (D:List UInt8) (w:World) (e:Ending) (w':World):Prop:=
 Gr w w'∧match opS D with
  | none=>e= .returned (.tuple #[.agg #[.int .i64 0, .int .i64 0, .slice none 0 0], .int .i64 2])
  | some (ag,xf,m)=>∃A c,e= .returned (.tuple #[.agg #[.int .i64 (ag:Nat), .int .i64 (xf:Nat), .slice A m.length c], .int .i64 0])∧m.length≤c∧Ri w' A (ints m)∧∀ad,A=some ad→w.heap.size≤ad.block
theorem xinfo_any {Y:Nat→Prop} {X:Nat} {R:Option Nat} {room:Int} {n:Nat} (D:List UInt8) (hD:(D.length:Int)≤1073741824) (w:World) (h:RsM Y w X R room n (some D)):Calls Tryz.prog 16 #[.pointer (some ⟨X,0,none⟩), .string nmA] w (RetIn D w):=by
 obtain ⟨V,hV⟩:∃V,V=w.alloc (.cells #[.int .i64 0, .int .i64 0, .slice none 0 0] 24):=⟨_,rfl⟩
 have gV:Gr w V:=by rw[hV];exact Gr.alloc (Gr.refl w) _
 have hVb:HbS w.heap.size 0 0 V:=by rw[hV];exact HbS.new _
 have HVz:=Lib.hid hVb.1
 have HV:=Lib.hid hV
 have HGV:=Lib.hid gV
 have HSI:=Lib.hid (xsize_some V (h.gr gV))
 have HRD:=Lib.hid (xread_all hD V (h.gr gV))
 have HD:=Lib.hid hD
 obtain ⟨oo,hoo⟩:∃oo,oo=opS D:=⟨_,rfl⟩
 have HOO:=Lib.hid hoo
 unfold RetIn
 rw[←hoo]
 cases hde:decH D with
 | none=>
  have HDE:=Lib.hid hde
  have ho:oo=none:=by rw[hoo];unfold opS;rw[hde]
  subst ho
  clear h hde hoo hV gV
  go_enter Tryz.func16,Tryz.ntmps16
  go_upto_region 1 with (fail)
  rw[←HV.out]
  clear HV
  go_upto_region 7 with (first|(go_at_call 24;refine HSI.out.mono ?_;rintro e w1 ⟨rfl,rfl⟩)|(go_at_call 25;refine HRD.out.mono ?_;rintro e w2 ⟨A2,c2,rfl,hc2,ho2,g2⟩;have HO2:=Lib.hid (And.intro hc2 (And.intro ho2 g2));have hb2:=hVb.gr g2;clear hc2 ho2 g2 hVb))
  go_upto_region 8 with (go_at_call 45;refine (rhdecode_any A2 c2 D HD.out HO2.out.1 _ (Rb.own HO2.out.2.1)).mono ?_;rintro e w3 ⟨g3,h3⟩;rw[HDE.out] at h3;subst h3;have hb3:=hb2.gr g3;have HG3:=Lib.hid ((HGV.out.trans HO2.out.2.2).trans g3);clear g3 hb2)
  obtain ⟨hz,z0,z1,z2,f0,f1,f2⟩:=hb3
  go_wp2
  refine bodyPost_ret (v:= .tuple #[.agg #[.int .i64 0, .int .i64 0, .slice none 0 0], .int .i64 2]) (by simp[results,Tryz.results16,go_sem, *]) rfl ?_
  exact ⟨(((HG3.out.setCell (p:=⟨w.heap.size,0,none⟩) (Nat.le_refl _) _).setCell (p:=⟨w.heap.size,1,none⟩) (Nat.le_refl _) _).setCell (p:=⟨w.heap.size,2,none⟩) (Nat.le_refl _) _).alloc _,rfl⟩
 | some p=>
  obtain ⟨ag,xf,m⟩:=p
  have hM:=decH_may hde
  have hF:=MayF.ofH hM
  have hsz:=hF.sz
  have ho:oo=if sizeS m=D.length then some (ag,xf,m) else none:=by rw[hoo];unfold opS;rw[hde]
  have HDE:=Lib.hid hde
  have HM:=Lib.hid (And.intro hM hF)
  have hszi:(sizeS m:Int)≤1048576:=by omega
  clear h hde hoo hM hF hsz hV gV
  go_enter Tryz.func16,Tryz.ntmps16
  go_upto_region 1 with (fail)
  rw[←HV.out]
  clear HV
  go_upto_region 7 with (first|(go_at_call 24;refine HSI.out.mono ?_;rintro e w1 ⟨rfl,rfl⟩)|(go_at_call 25;refine HRD.out.mono ?_;rintro e w2 ⟨A2,c2,rfl,hc2,ho2,g2⟩;have HO2:=Lib.hid (And.intro hc2 (And.intro ho2 g2));have hb2:=hVb.gr g2;clear hc2 ho2 g2 hVb))
  go_upto_region 8 with (go_at_call 45;refine (rhdecode_any A2 c2 D HD.out HO2.out.1 _ (Rb.own HO2.out.2.1)).mono ?_;rintro e w3 ⟨g3,h3⟩;rw[HDE.out] at h3;obtain ⟨A,c,rfl,hmc,hri, -,hf3⟩:=h3;have hb3:=hb2.gr g3;have HR3:=Lib.hid (And.intro hmc (And.intro hri hf3));have HG3:=Lib.hid (And.intro (HO2.out.2.2.trans g3) ((HGV.out.trans HO2.out.2.2).trans g3));clear g3 hb2 hmc hri hf3)
  obtain ⟨U,hU⟩:∃U,U=w3.alloc (.cells #[.int .i64 ag, .int .i64 xf, .slice A m.length c] 24):=⟨_,rfl⟩
  have gU:Gr w3 U:=by rw[hU];exact Gr.alloc (Gr.refl w3) _
  have hzU:w3.heap.size<U.heap.size:=by rw[hU];simp
  have c0:U.cell? ⟨w3.heap.size,0,none⟩=some (.int .i64 ag):=by rw[hU];go_simp
  have c1:U.cell? ⟨w3.heap.size,1,none⟩=some (.int .i64 xf):=by rw[hU];go_simp
  have c2:U.cell? ⟨w3.heap.size,2,none⟩=some (.slice A m.length c):=by rw[hU];go_simp
  have hbU:=hb3.gr gU
  have hss:=rhsize_any ag xf A c (ints m) U (HR3.out.2.1.gr gU)
  rw[HM.out.1,nats_ints,ints_len] at hss
  have HSS:=Lib.hid hss
  have HGU:=Lib.hid (And.intro gU (HG3.out.2.trans gU))
  have HFR:Hid (∀ad,A=some ad→w.heap.size<ad.block):=Lib.hid (fun ad e=>Nat.lt_of_lt_of_le (Nat.lt_of_lt_of_le HVz.out HO2.out.2.2.size) (HR3.out.2.2 ad e))
  rw[←hU]
  clear hU gU hss hb3
  by_cases hsd:sizeS m=D.length
  ·
   rw[if_pos hsd] at ho
   have hne:((sizeS m:Int) != (D.length:Int))=false:=by rw[hsd];simp
   subst ho
   clear hsd
   go_wp2_with (go_at_call 30;refine HSS.out.mono ?_;rintro e w5 ⟨rfl,g5⟩;have d0:=(Below.cell g5 (p:=⟨w3.heap.size,0,none⟩) hzU).trans c0;have d1:=(Below.cell g5 (p:=⟨w3.heap.size,1,none⟩) hzU).trans c1;have d2:=(Below.cell g5 (p:=⟨w3.heap.size,2,none⟩) hzU).trans c2;obtain ⟨hz5,z0,z1,z2,f0,f1,f2⟩:=hbU.gr g5;have HG5:=Lib.hid (HGU.out.2.trans g5);have HG5b:=Lib.hid g5;clear g5 hbU c0 c1 c2)
   refine bodyPost_ret (v:= .tuple #[.agg #[.int .i64 (ag:Nat), .int .i64 (xf:Nat), .slice A m.length c], .int .i64 0]) (by simp[results,Tryz.results16,go_sem, *]) rfl ?_
   exact ⟨((HG5.out.setCell (p:=⟨w.heap.size,0,none⟩) (Nat.le_refl _) _).setCell (p:=⟨w.heap.size,1,none⟩) (Nat.le_refl _) _).setCell (p:=⟨w.heap.size,2,none⟩) (Nat.le_refl _) _,A,c,rfl,HR3.out.1,Ri.set3 (fun ad e=>Nat.ne_of_gt (HFR.out ad e)) ((HR3.out.2.1.gr HGU.out.1).gr HG5b.out),fun ad e=>Nat.le_of_lt (HFR.out ad e)⟩
  ·
   rw[if_neg hsd] at ho
   have hne:((sizeS m:Int) != (D.length:Int))=true:=by simp;omega
   subst ho
   clear hsd
   go_wp2_with (go_at_call 30;refine HSS.out.mono ?_;rintro e w5 ⟨rfl,g5⟩;have d0:=(Below.cell g5 (p:=⟨w3.heap.size,0,none⟩) hzU).trans c0;have d1:=(Below.cell g5 (p:=⟨w3.heap.size,1,none⟩) hzU).trans c1;have d2:=(Below.cell g5 (p:=⟨w3.heap.size,2,none⟩) hzU).trans c2;obtain ⟨hz5,z0,z1,z2,f0,f1,f2⟩:=hbU.gr g5;have HG5:=Lib.hid (HGU.out.2.trans g5);have HG5b:=Lib.hid g5;clear g5 hbU c0 c1 c2)
   refine bodyPost_ret (v:= .tuple #[.agg #[.int .i64 0, .int .i64 0, .slice none 0 0], .int .i64 2]) (by simp[results,Tryz.results16,go_sem, *]) rfl ?_
   exact ⟨((HG5.out.setCell (p:=⟨w.heap.size,0,none⟩) (Nat.le_refl _) _).setCell (p:=⟨w.heap.size,1,none⟩) (Nat.le_refl _) _).setCell (p:=⟨w.heap.size,2,none⟩) (Nat.le_refl _) _,rfl⟩
theorem xupdate_any {Y:Nat→Prop} {X:Nat} {R:Option Nat} {room:Int} {n:Nat} {D:List UInt8} {ag xf:Nat} {m:Arcs} (hD:(D.length:Int)≤1073741824) (ho:opS D=some (ag,xf,m)) (now:Int) (hnow1:1≤now) (hnow2:now≤4294967295) (A:Option Addr) (c:Nat) (L:List (Int×Int)) (hL:L.length≤1000) (hn:n≤800000) (w:World) (h:RsM Y w X R room n (some D)) (hr:Ri w A L) (hA:0<L.length→∀ad,A=some ad→¬Xch X R ad.block) :
  Calls Tryz.prog 21 #[.pointer (some ⟨X,0,none⟩), .string nmA, .int .i64 now, .slice A L.length c] w fun e w'=>e= .returned (.tuple #[.int .i64 ((updS ag xf m now L (0,D)).1:Nat), .int .i64 0])∧RsM Y w' X none room 0 (some (updS ag xf m now L (0,D)).2)∧Kp (Xch X R) w w':=by
 have HIN:=Lib.hid (xinfo_any D hD w h)
 have HOD:=Lib.hid ho
 have H0:=Lib.hid h
 obtain ⟨U,hU⟩:∃U,U=updS ag xf m now L (0,D):=⟨_,rfl⟩
 rw[←hU]
 have HU:=Lib.hid hU
 have HR:=Lib.hid (And.intro hr hA)
 have hLi:(L.length:Int)≤1000:=by omega
 have hn1:¬now<1:=by omega
 have hn2:¬4294967295<now:=by omega
 have HMF:Hid (mayH ag xf (ints m)=true∧D.length=sizeS m):=Lib.hid (by
  unfold opS at ho
  cases hde:decH D with
  | none=>rw[hde] at ho;cases ho
  | some p=>
   obtain ⟨a,x,mm⟩:=p
   rw[hde] at ho
   simp only at ho
   by_cases e:sizeS mm=D.length
   ·
    rw[if_pos e] at ho
    injection ho with ho
    injection ho with e1 e2
    injection e2 with e2 e3
    subst e1 e2 e3
    exact ⟨decH_may hde,e.symm⟩
   ·
    rw[if_neg e] at ho;cases ho)
 clear h hD ho hU hr hA
 go_enter Tryz.func21,Tryz.ntmps21
 go_upto_region 4 with (go_at_call 16;refine HIN.out.mono ?_;rintro e w1 ⟨g1,h1⟩;rw[HOD.out] at h1;obtain ⟨A1,c1,rfl,hc1,hr1,hf1⟩:=h1;have H1:=Lib.hid (And.intro hc1 (And.intro hr1 hf1));have HG1:=Lib.hid g1;clear g1 hc1 hr1 hf1)
 obtain ⟨V1,hV1⟩:∃V1,V1=w1.alloc (.cells #[.int .i64 ag, .int .i64 xf, .slice A1 m.length c1] 24):=⟨_,rfl⟩
 have k1:Gr w1 V1:=by rw[hV1];exact Gr.alloc (Gr.refl w1) _
 have y0:V1.cell? ⟨w1.heap.size,0,none⟩=some (.int .i64 ag):=by rw[hV1];go_simp
 have y1:V1.cell? ⟨w1.heap.size,1,none⟩=some (.int .i64 xf):=by rw[hV1];go_simp
 have y2:V1.cell? ⟨w1.heap.size,2,none⟩=some (.slice A1 m.length c1):=by rw[hV1];go_simp
 have HK1:=Lib.hid k1
 rw[←hV1]
 clear hV1 k1
 go_upto_region 7 with (fail)
 obtain ⟨V2,hV2⟩:∃V2,V2=V1.alloc (.cells #[.pointer (some ⟨X,0,none⟩), .string nmA, .int .i64 ag, .int .i64 xf, .slice A1 m.length c1] 123):=⟨_,rfl⟩
 have k2:Gr V1 V2:=by rw[hV2];exact Gr.alloc (Gr.refl V1) _
 have hz2:V1.heap.size<V2.heap.size:=by rw[hV2];simp
 have x0:V2.cell? ⟨V1.heap.size,0,none⟩=some (.pointer (some ⟨X,0,none⟩)):=by rw[hV2];go_simp
 have x1:V2.cell? ⟨V1.heap.size,1,none⟩=some (.string nmA):=by rw[hV2];go_simp
 have x2:V2.cell? ⟨V1.heap.size,2,none⟩=some (.int .i64 ag):=by rw[hV2];go_simp
 have x3:V2.cell? ⟨V1.heap.size,3,none⟩=some (.int .i64 xf):=by rw[hV2];go_simp
 have x4:V2.cell? ⟨V1.heap.size,4,none⟩=some (.slice A1 m.length c1):=by rw[hV2];go_simp
 have hr2:Ri V2 A1 (ints m):=(H1.out.2.1.gr HK1.out).gr k2
 have HGV:=Lib.hid ((HG1.out.trans HK1.out).trans k2)
 have HXF:Hid (XfM Y V2 V1.heap.size X R room n ag xf A1 c1 m D):=Lib.hid ⟨⟨x0,x1,x2,x3,x4⟩,hr2,HMF.out.1,H1.out.1,HMF.out.2,H0.out.more HGV.out (fun k e=>by
   rcases e with e|e|⟨ad,e1,e2⟩
   ·
    exact .inl e
   ·
    subst e;exact .inr (Nat.le_trans HG1.out.size HK1.out.size)
   ·
    rw[←e2];exact .inr (H1.out.2.2 ad e1)) (fun k e=>by
   rcases e with e|e|⟨ad,e1,e2⟩
   ·
    exact Nat.lt_of_lt_of_le (H0.out.yl k e) HGV.out.size
   ·
    subst e;exact hz2
   ·
    obtain ⟨ad',e3,hb, -⟩:=hr2 (by rw[ints_len];have:=(MayF.ofH HMF.out.1).l1;omega)
    rw[e1] at e3
    injection e3 with e3
    rw[←e2,e3];exact hb)⟩
 have HBZ:Hid (w.heap.size≤V1.heap.size):=Lib.hid (HG1.out.trans HK1.out).size
 rw[←hV2]
 clear hV2 k2 x0 x1 x2 x3 x4 y0 y1 y2 hr2 hz2
 go_upto_region 9 with (fail)
 go_loopw [13,14] (fun nn j wr=>∃(q kq:Nat) (Rq:Option Nat) (nq:Nat) (Dq:List UInt8),q≤L.length∧j= .int .i64 q∧nn= .int .i64 kq∧kq≤q∧nq≤n+27*q∧XfM Y wr V1.heap.size X Rq room nq ag xf A1 c1 m Dq∧Kp (Xch X R) V2 wr∧(∀z,Rq=some z→R=some z∨V2.heap.size≤z)∧Hid (U=updS ag xf m now (L.drop q) (kq,Dq))) (fun _ j _=>L.length-(intOf j).toNat)
 case atStart=>exact ⟨0,0,R,n,D,Nat.zero_le _,rfl,rfl,Nat.le_refl _,by omega,HXF.out,Kp.refl _ _,fun _ e=> .inl e,Lib.hid (by rw[List.drop_zero];exact HU.out)⟩
 case round=>
  obtain ⟨q,kq,Rq,nq,Dq,hq,rfl,rfl,hkq,hnq,hfi,hkp,hRq,HUP⟩:=hrel
  by_cases hlt:q<L.length
  ·
   have hlti:(q:Int)<(L.length:Int):=by omega
   obtain ⟨pb,rfl,hpb,hcs⟩:=HR.out.1 (by omega)
   have hnT:∀z,¬Xch X R (pb.add z).block:=fun z e=>by rw[adB] at e;exact HR.out.2 (by omega) _ rfl e
   have hpz:∀z,(pb.add z).block<w.heap.size:=fun z=>by rw[adB];exact hpb
   have hp1:∀z,(pb.add z).block<V2.heap.size:=fun z=>Nat.lt_of_lt_of_le (hpz z) HGV.out.size
   have a0:=(hkp.cell (a:=pb.add (q*2)) (hp1 _) (hnT _)).trans ((Below.cell HGV.out (p:=pb.add (q*2)) (hpz _)).trans (hcs q hlt).1)
   have a1:=(hkp.cell (a:=⟨(pb.add (q*2)).block,(pb.add (q*2)).off+1,none⟩) (hp1 _) (hnT _)).trans ((Below.cell HGV.out (p:=⟨(pb.add (q*2)).block,(pb.add (q*2)).off+1,none⟩) (hpz _)).trans (hcs q hlt).2)
   obtain ⟨t,v,hp⟩:∃t v,L[q]=(t,v):=⟨_,_,rfl⟩
   rw[hp] at a0 a1
   simp only at a0 a1
   have hdr:L.drop q=(t,v)::L.drop (q+1):=by rw[←hp];exact List.drop_eq_getElem_cons hlt
   rw[hdr] at HUP
   obtain ⟨og,hog⟩:∃og,og=laysS ag xf m Dq t v now:=⟨_,rfl⟩
   have hla:=xlays_any t v now hnow2 (by omega) wr hfi
   rw[←hog] at hla
   have HLA:=Lib.hid hla
   have HKP:=Lib.hid (And.intro hkp hRq)
   have HLE:=Lib.hid (And.intro hlt (And.intro hnq hkq))
   have hkqi:(kq:Int)≤1000:=by omega
   clear hla hkp hRq hfi hcs hnT hp1 hpz hpb hp hdr hnq hkq
   have HFIN:Hid (∀(w8:World) (R8:Option Nat) (n8:Nat) (D8:List UInt8),n8≤nq+27→XfM Y w8 V1.heap.size X R8 room n8 ag xf A1 c1 m D8→Kp (Xch X Rq) wr w8→(∀z,R8=some z→Rq=some z∨wr.heap.size≤z)→n8≤n+27*(q+1)∧XfM Y w8 V1.heap.size X R8 room n8 ag xf A1 c1 m D8∧Kp (Xch X R) V2 w8∧∀z,R8=some z→R=some z∨V2.heap.size≤z):=Lib.hid (fun w8 R8 n8 D8 e1 e2 e3 e4=>⟨by have:=HLE.out.2.1;omega,e2,HKP.out.1.trans e3 (xch_sub HKP.out.2),fun z hz=>(e4 z hz).elim (HKP.out.2 z) (fun e=> .inr (Nat.le_trans HKP.out.1.size e))⟩)
   cases og with
   | none=>
    have HE:Hid (U=updS ag xf m now (L.drop (q+1)) (kq,Dq)):=Lib.hid (by rw[HUP.out,updS,←hog])
    clear hog HUP
    go_wp2_with (go_at_call 56;refine HLA.out.mono ?_;rintro e w8 ⟨rfl,R8,n8,hn8,hf8,hk8,hr8⟩;have H8:=HFIN.out w8 R8 n8 Dq hn8 hf8 hk8 hr8;have H8:=Lib.hid H8;clear hn8 hf8 hk8 hr8)
    go_roundw
    case rel=>exact ⟨q+1,kq,R8,n8,Dq,HLE.out.1,by go_num,rfl,by have:=HLE.out.2.2;omega,H8.out.1,H8.out.2.1,H8.out.2.2.1,H8.out.2.2.2,HE⟩
    case measure=>have:=HLE.out.1;simp[intOf];omega
   | some D8=>
    have HE:Hid (U=updS ag xf m now (L.drop (q+1)) (kq+1,D8)):=Lib.hid (by rw[HUP.out,updS,←hog])
    clear hog HUP
    go_wp2_with (go_at_call 56;refine HLA.out.mono ?_;rintro e w8 ⟨rfl,R8,n8,hn8,hf8,hk8,hr8⟩;have H8:=HFIN.out w8 R8 n8 D8 hn8 hf8 hk8 hr8;have H8:=Lib.hid H8;clear hn8 hf8 hk8 hr8)
    go_roundw
    case rel=>exact ⟨q+1,kq+1,R8,n8,D8,HLE.out.1,by go_num,by go_num,by have:=HLE.out.2.2;omega,H8.out.1,H8.out.2.1,H8.out.2.2.1,H8.out.2.2.2,HE⟩
    case measure=>have:=HLE.out.1;simp[intOf];omega
  ·
   have hqe:q=L.length:=by omega
   subst hqe
   rw[List.drop_length] at HUP
   have hU:U=(kq,Dq):=HUP.out
   have HFK:=Lib.hid (And.intro (hfi.fs.weak (Y':=Y) (fun _ e=> .inl e)) (And.intro hkp hRq))
   have HUE:=Lib.hid hU
   clear hfi hkp hRq hU
   go_wp2_with (go_at_call 35;refine (xsync_any _ HFK.out.1).mono ?_;rintro e w9 ⟨rfl,hF,hK⟩;have H9:=Lib.hid (And.intro hF hK);clear hF hK)
   go_ret2
   rw[HUE.out]
   exact ⟨rfl,H9.out.1,((Kp.of_gr (Xch X R) HGV.out).trans HFK.out.2.1 (fun _ _ e=>e)).trans H9.out.2 (fun i _ e=> .inl e)⟩
theorem make_bytes (n:Nat) (hn:(n:Int)≤1048576) (w:World):(Instr.makeSlice 49 (.int .i64 (n:Nat)) (.int .i64 (n:Nat))).run Tryz.prog w= .ok (.slice (some ⟨w.heap.size,0,none⟩) n n) (w.alloc (.cells (bys (List.replicate n 0)).toArray 5)):=by
 obtain ⟨i0,hi0,hz0,hz1,hz2⟩:=info_parts info_u8
 have h:=run_makeSlice (P:=Tryz.prog) (w:=w) 49 5 i0 (.int .u8 0) Tryz.underlying49 hi0 hz0 .i64 .i64 (n:Nat) (n:Nat) (by omega) (Int.le_refl _) (by rw[hz1];simp;omega) (by rw[hz2];omega) (by omega)
 rw[h,hz1]
 simp only[Int.toNat_natCast,Nat.mul_one]
 have e:madeCells (Value.cells (.int .u8 0)) n=(bys (List.replicate n 0)).toArray:=by
  apply Array.ext
  ·
   simp[madeCells,bys]
  ·
   intro i h1 h2
   simp[madeCells,bys,Value.cells]
   rw[Nat.mod_one]
   rfl
 rw[e]
section
open Go.RowKit Go.ChangeMaps Go.Maps
theorem used_none {Y:Nat→Prop} {F P M:Nat} {R:Option Nat} {room:Int} {n:Nat} (w:World) (h:FsM Y w F P M R room n none):Calls Tryz.prog 48 #[.pointer (some ⟨F,0,none⟩)] w fun e w'=>e= .returned (.int .i64 0)∧Gr w w':=by
 have f2:=h.f2
 obtain ⟨clk,hb⟩:=h.mp
 have hr:=run_range_map (P:=Tryz.prog) w 74 _ _ M #[] clk Tryz.underlying74 hb
 have hlm:=h.lm
 clear h
 have HB:=Lib.hid hb
 go_enter Tryz.func48,Tryz.ntmps48
 go_wp2
 obtain ⟨W1,hW1⟩:∃W1,W1=w.alloc (.mapIter (some M) clk #[] clk):=⟨_,rfl⟩
 have g1:Gr w W1:=by rw[hW1];exact Gr.alloc (Gr.refl _) _
 have hi:W1.heap[w.heap.size]?=some (.mapIter (some M) clk #[] clk):=by rw[hW1];exact heap_alloc_new _ _
 have hb1:W1.heap[M]?=some (.map #[] clk):=(Below.block g1 M hlm).trans HB.out
 have hn:=fun ty=>next_none (P:=Tryz.prog) ty hi hb1
 try rw[←hW1]
 clear hW1 hr hi hb1 hb
 go_loopw [3] (fun v wr=>v= .int .i64 0∧wr=W1) (fun _ _=>0)
 case atStart=>exact ⟨rfl,by first|trivial|rfl⟩
 case round=>
  obtain ⟨rfl,hww⟩:=hrel
  subst hww
  go_wp2
  go_ret
  exact ⟨rfl,g1⟩
end
section
open Go.RowKit Go.ChangeMaps Go.Maps
theorem fcreate_new {Y:Nat→Prop} {F P M:Nat} {R:Option Nat} {room:Int} {n:Nat} (pb k c:Nat) (L:List UInt8) (hL:(L.length:Int)≤room) (hroom:room≤1073741824) (hn:n≤1000000) (w:World) (h:FsM Y w F P M R room n none)
  (htot:∀W,Gr w W→Calls Tryz.prog 47 #[.int .i64 1073741824, .slice (some ⟨pb,0,none⟩) k c] W fun e w'=>e= .returned (.int .i64 (L.length:Nat))∧Gr W w')
  (hjoin:∀W,Gr w W→Calls Tryz.prog 50 #[.slice (some ⟨pb,0,none⟩) k c, .slice none 0 0] W fun e w'=>∃g d,e= .returned (.slice g L.length d)∧L.length≤d∧Rb w' g L∧Gr W w') :
  Calls Tryz.prog 19 #[.pointer (some ⟨F,0,none⟩), .string nmA, .slice (some ⟨pb,0,none⟩) k c] w fun e w'=>e= .returned (.int .i64 0)∧∃R',FsM Y w' F P M R' room (n+1) (some L)∧Kp (Tch P M R) w w'∧∀i,R'=some i→R=some i∨w.heap.size≤i:=by
 have f2:=h.f2
 obtain ⟨clk,hb⟩:=h.mp
 obtain ⟨kl,hkl⟩:=keyA
 have hl:=look_none (P:=Tryz.prog) Tryz.underlying74 keyedS hkl (zeroSU w) hb true
 simp only[if_true] at hl
 have H0:=Lib.hid h
 have HTOT:=Lib.hid htot
 have HJ:=Lib.hid hjoin
 have hw1:IntKind.i64.wrap room=room:=IntWalk.i64_in room (by omega)
 have hw2:¬room<(L.length:Int):=by omega
 have hw3:decide (room<(L.length:Int))=false:=decide_eq_false hw2
 have hL9:(L.length:Int)≤1073741824:=by omega
 clear h hb htot hjoin
 go_enter Tryz.func19,Tryz.ntmps19
 go_upto_region 6 with (go_at_call 46;refine (isName_any nmA _).mono ?_;rintro e w1 ⟨rfl,rfl⟩;rw[nmA_ok])
 refine region_Q (by kernel_rfl) (by kernel_rfl) ?_
 refine qv ?_;simp only[Pu]
 refine q_call (v:= .int .i64 (L.length:Nat)) (f:=?qf2) (args:=?qa2) (by rfl) (fun W hW=>?qh2) (fun W hW=>?qc2) ?qr2
 case qh2=>go_simp;constructor<;>rfl
 case qc2=>exact (HTOT.out W hW).mono (fun e w' h=>⟨h.1,Gr.trans hW h.2⟩)
 simp only[Pu]
 iterate 3 (refine qv ?_;simp only[Pu])
 refine q_val (v:=?qv6) (by rfl) (fun W hW=>?qh6) ?qr6
 case qh6=>have s1:=(Below.cell hW (p:=⟨F,1,none⟩) H0.out.lf).trans H0.out.f1;go_simp;rfl
 simp only[Pu]
 refine qv ?_;simp only[Pu]
 refine q_call (v:= .int .i64 0) (f:=?qf8) (args:=?qa8) (by rfl) (fun W hW=>?qh8) (fun W hW=>?qc8) ?qr8
 case qh8=>go_simp;constructor<;>rfl
 case qc8=>exact (used_none W (H0.out.gr hW)).mono (fun e w' h=>⟨h.1,Gr.trans hW h.2⟩)
 simp only[Pu]
 iterate 2 (refine qv ?_;simp only[Pu])
 refine wpQuiet_nil ?_
 intro w6 g6
 clear hl f2
 have HG6:=Lib.hid g6
 clear g6
 go_wp2_with (first|(go_at_call 50;refine (HJ.out _ HG6.out).mono ?_;rintro e w7 ⟨g,d,rfl,hd,hr,g7⟩;have HR:=Lib.hid (And.intro hd hr);have HG7:=Lib.hid (HG6.out.trans g7);clear hd hr g7)|(go_at_call 49;refine (does_any 0 0 g L.length d hn _ (H0.out.gr HG7.out) (fun W gW=>applies_create L g d hL9 W ((H0.out.gr HG7.out).gr gW) (HR.out.2.gr gW))).mono ?_;rintro e w8 ⟨rfl,R',hF,hK,hf⟩;have H8:=Lib.hid (And.intro hF (And.intro hK hf));clear hF hK hf))
 go_ret
 refine ⟨rfl,_,H8.out.1,(Kp.of_gr (Tch P M R) HG7.out).trans H8.out.2.1 (fun _ _ e=>e),fun i hi=>?_⟩
 rcases H8.out.2.2 i hi with e|e
 ·
  exact .inl e
 ·
  exact .inr (Nat.le_trans HG7.out.size e)
end
section
open Go.RowKit Go.ChangeMaps Go.Maps
theorem two_parts (w:World) (B Zs:List UInt8) (p:Addr) (c:Nat) (hb:Rb w (some p) B) (n:Nat) (hn:n=Zs.length):Pts ((w.alloc (.cells (bys Zs).toArray 5)).alloc (.cells #[.slice (some p) B.length c, .slice (some ⟨w.heap.size,0,none⟩) n n] 49)) (w.heap.size+1) [B,Zs]∧Gr w ((w.alloc (.cells (bys Zs).toArray 5)).alloc (.cells #[.slice (some p) B.length c, .slice (some ⟨w.heap.size,0,none⟩) n n] 49)):=by
 subst hn
 have g1:Gr w (w.alloc (.cells (bys Zs).toArray 5)):=Gr.alloc (Gr.refl _) _
 have g2:Gr (w.alloc (.cells (bys Zs).toArray 5)) ((w.alloc (.cells (bys Zs).toArray 5)).alloc (.cells #[.slice (some p) B.length c, .slice (some ⟨w.heap.size,0,none⟩) Zs.length Zs.length] 49)):=Gr.alloc (Gr.refl _) _
 have hz:Rb (w.alloc (.cells (bys Zs).toArray 5)) (some ⟨w.heap.size,0,none⟩) Zs:=Rd.newU (W:=w) rfl _ (bys Zs) (bys_length Zs)
 refine ⟨fun k hk=>?_,g1.trans g2⟩
 match k,hk with
 | 0,_=>exact ⟨p,c,by go_simp,hb.gr (g1.trans g2)⟩
 | 1,_=>exact ⟨⟨w.heap.size,0,none⟩,Zs.length,by go_simp,hz.gr g2⟩
 | k+2,h=>exact absurd h (by simp)
theorem fcreate_two {Y:Nat→Prop} {F P M:Nat} {R:Option Nat} {room:Int} {n:Nat} (pb c:Nat) (B Zs:List UInt8) (hB0:0<B.length) (hL:((B++Zs).length:Int)≤room) (hroom:room≤1073741824) (hn:n≤1000000) (hc:2≤c) (w:World) (h:FsM Y w F P M R room n none) (hp:Pts w pb [B,Zs]) :
  Calls Tryz.prog 19 #[.pointer (some ⟨F,0,none⟩), .string nmA, .slice (some ⟨pb,0,none⟩) 2 c] w fun e w'=>e= .returned (.int .i64 0)∧∃R',FsM Y w' F P M R' room (n+1) (some (B++Zs))∧Kp (Tch P M R) w w'∧∀i,R'=some i→R=some i∨w.heap.size≤i:=by
 have hlen:(B++Zs).length=B.length+Zs.length:=List.length_append
 have hs:([B,Zs].map List.length).sum=(B++Zs).length:=by rw[hlen];simp
 refine fcreate_new pb 2 c (B++Zs) hL hroom hn w h (fun W gW=>?_) (fun W gW=>(join_two pb c B Zs hB0 (by omega) hc W (hp.gr gW)).mono (fun e w' h=>by obtain ⟨g,d,e1, -,e3,e4,e5⟩:=h;exact ⟨some ⟨g,0,none⟩,d,e1,e3,e4,e5⟩))
 refine (total_any pb 0 2 c [B,Zs] rfl (by omega) (by rw[hs];omega) W (fun k hk=>?_)).mono ?_
 ·
  obtain ⟨p,d,h1, -⟩:=(hp.gr gW) k hk
  exact ⟨some p,d,by rw[Nat.zero_add];exact h1⟩
 ·
  rintro e w' ⟨rfl,rfl⟩
  exact ⟨by rw[hs],Gr.refl _⟩
end
theorem flat2 (B Z:List UInt8):[B,Z].flatten=B++Z:=by simp
theorem xcrt_any {Y:Nat→Prop} {X:Nat} {R:Option Nat} {room:Int} {n:Nat} (ag xf:Nat) (A:Option Addr) (c:Nat) (m:List (Nat×Nat)) (hM:mayH ag xf (ints m)=true) (hn:n≤1000000) (hr1:(sizeS m:Int)≤room) (hr2:room≤1073741824) (w:World) (h:RsM Y w X R room n none) (hr:Ri w A (ints m)):Calls Tryz.prog 12 #[.pointer (some ⟨X,0,none⟩), .string nmA, .agg #[.int .i64 ag, .int .i64 xf, .slice A m.length c]] w fun e w'=>e= .returned (.int .i64 0)∧RsM Y w' X none room 0 (some (hdrS ag xf m++List.replicate (sizeS m-(16+12*m.length)) 0))∧Kp (Xch X R) w w':=by
 obtain ⟨i0,hi0,hz0,hz1,hz2⟩:=info_parts info_u8R
 obtain ⟨V,hV⟩:∃V,V=w.alloc (.cells #[.int .i64 ag, .int .i64 xf, .slice A m.length c] 24):=⟨_,rfl⟩
 have gV:Gr w V:=by rw[hV];exact Gr.alloc (Gr.refl w) _
 have hz:w.heap.size<V.heap.size:=by rw[hV];simp
 have c0:V.cell? ⟨w.heap.size,0,none⟩=some (.int .i64 ag):=by rw[hV];go_simp
 have c1:V.cell? ⟨w.heap.size,1,none⟩=some (.int .i64 xf):=by rw[hV];go_simp
 have c2:V.cell? ⟨w.heap.size,2,none⟩=some (.slice A m.length c):=by rw[hV];go_simp
 have HE:=Lib.hid (rencode_any ag xf A c m hM V (hr.gr gV))
 have hf:=mayS_facts (m:=m) (by have h:=hM;unfold mayH at h;rw[Bool.and_eq_true,nats_ints] at h;exact h.2)
 have hss:=fun W (hW:Ri W A (ints m))=>rhsize_any ag xf A c (ints m) W hW
 rw[hM,nats_ints,ints_len] at hss
 have hsz:=sizeS_eq m
 have hsl:=hdrS_len ag xf m
 obtain ⟨S,hS⟩:∃S,S=sizeS m:=⟨_,rfl⟩
 obtain ⟨B,hB⟩:∃B,B=hdrS ag xf m:=⟨_,rfl⟩
 rw[←hS] at hss hsz hf hr1 ⊢
 rw[←hB] at hsl HE ⊢
 rw[←hsl] at hsz ⊢
 have hKS:(B.length:Int)≤(S:Int):=by omega
 have hSi:(S:Int)≤1048576:=by omega
 have hK0:B.length≤112:=by omega
 have hw1:IntKind.i64.wrap ((S:Int)-(B.length:Int))=(S:Int)-(B.length:Int):=IntWalk.i64_in _ (by omega)
 have hw2:¬(S:Int)-(B.length:Int)<0:=by omega
 obtain ⟨Z,hZ⟩:∃Z,Z=S-B.length:=⟨_,rfl⟩
 have hZi:(Z:Int)=(S:Int)-(B.length:Int):=by omega
 have hmk:=fun W=>make_bytes Z (by omega) W
 rw[hZi] at hmk
 rw[←hZ]
 have hB0:0<B.length:=by omega
 have hBZ:(B++List.replicate Z 0).length=S:=by rw[List.length_append,List.length_replicate];omega
 have HBZ:=Lib.hid hBZ
 have hZl:Z=(List.replicate Z (0:UInt8)).length:=by rw[List.length_replicate]
 have HZL:=Lib.hid hZl
 have HSR:Hid ((S:Int)≤room):=Lib.hid (by omega)
 clear hZ hZi hZl hBZ
 have HSS:=Lib.hid hss
 have HR:=Lib.hid (hr.gr gV)
 have HV:=Lib.hid hV
 have HG:=Lib.hid gV
 have H0:=Lib.hid (h.gr gV)
 clear hV gV hr hM h hss hf hsz hS hB hsl
 go_enter Tryz.func12,Tryz.ntmps12
 go_upto_region 1 with (fail)
 rw[←HV.out]
 clear HV
 go_upto_region 6 with (go_at_call 34;refine HE.out.mono ?_;rintro e w1 ⟨A5,c5,rfl,hc5,hb5,g1,hf5⟩;have d0:=(Below.cell g1 (p:=⟨w.heap.size,0,none⟩) hz).trans c0;have d1:=(Below.cell g1 (p:=⟨w.heap.size,1,none⟩) hz).trans c1;have d2:=(Below.cell g1 (p:=⟨w.heap.size,2,none⟩) hz).trans c2;have HG1:=Lib.hid g1;obtain ⟨p5,rfl,hp5, -⟩:=hb5.2 hB0;have HB5:=Lib.hid (And.intro hb5 hp5);clear g1 hb5 hf5 hp5)
 go_wp2_with (first|(go_at_call 30;refine (HSS.out _ (HR.out.gr HG1.out)).mono ?_;rintro e w2 ⟨rfl,g2⟩;have HG2:=Lib.hid (HG1.out.trans g2);have HB2:=Lib.hid (HB5.out.1.gr g2);clear g2)|(go_at_call 20;refine (xcreate_new (w2.heap.size+1) 0 2 2 [B,List.replicate Z 0] rfl (by decide) (by rw[flat2,HBZ.out];omega) (by rw[flat2,HBZ.out];exact HSR.out) hr2 hn _ ((H0.out.gr HG2.out).gr (two_parts w2 B (List.replicate Z 0) p5 c5 HB2.out Z HZL.out).2) (fun k h=>by obtain ⟨p,d,e,hr⟩:=(two_parts w2 B (List.replicate Z 0) p5 c5 HB2.out Z HZL.out).1 k h;exact ⟨some p,d,by rw[Nat.zero_add];exact e,hr⟩) (fun _=>by simp)).mono ?_;rintro e w8 ⟨rfl,R',hF,hK,hf⟩;rw[flat2] at hF;have H8:=Lib.hid (And.intro hF ((Kp.of_gr (Xch X R) (HG.out.trans (HG2.out.trans (two_parts w2 B (List.replicate Z 0) p5 c5 HB2.out Z HZL.out).2))).trans hK (fun _ _ e=>e)));clear hF hK hf)|(go_at_call 35;refine (xsync_any _ H8.out.1).mono ?_;rintro e w9 ⟨rfl,hF,hK⟩;have H9:=Lib.hid (And.intro hF (H8.out.2.trans hK (fun _ _ e=> .inl e)));clear hF hK))
 go_ret
 exact ⟨rfl,H9.out⟩
section
open Go.RowKit Go.ChangeMaps Go.Maps
theorem mapclone_any (b:Nat) (es:Array MapEntry) (clock:Nat) (w:World) (hb:w.heap[b]?=some (.map es clock)) :
  Calls Tryz.prog 71 #[.map (some b)] w fun e w'=>e= .returned (.map (some w.heap.size))∧w'=w.alloc (.map es clock):=by
 have hq:=fun w=>run_eql_map_nil_sl (P:=Tryz.prog) w 74 _ _ (some b) Tryz.underlying74
 go_enter Tryz.func71,Tryz.ntmps71
 go_wp2
 rw[run_callFunc_extern Tryz.func95 (by kernel_rfl) (by kernel_rfl) (by kernel_rfl) (e:=Extern.MapsClone.clone) (by kernel_rfl),run_maps_clone_sl w 74 hb]
 simp only[Result.andThen]
 rw[Oper.upon_value]
 go_wp2
 rw[run_typeAssert_map_sl _ 74 _ _ _ _ Tryz.underlying74]
 simp only[Result.andThen]
 rw[Oper.upon_value]
 go_wp2
 go_ret
 exact ⟨rfl,rfl⟩
end
section
open Go.RowKit Go.ChangeMaps Go.Maps
theorem FsM.synced {w:World} {Y:Nat→Prop} {F P M:Nat} {R:Option Nat} {room:Int} {n:Nat} {D:Option (List UInt8)} (h:FsM Y w F P M R room n D) (y:Value):FsM Y ((w.setCell ⟨P,1,none⟩ y).setCell ⟨P,0,none⟩ (.slice none 0 0)) F P M none room 0 D∧Kp (fun k=>k=P) w ((w.setCell ⟨P,1,none⟩ y).setCell ⟨P,0,none⟩ (.slice none 0 0)):=by
 have k:Kp (fun k=>k=P) w ((w.setCell ⟨P,1,none⟩ y).setCell ⟨P,0,none⟩ (.slice none 0 0)):=((Kp.refl (fun k=>k=P) _).set (p:=⟨P,1,none⟩) (.inl (show P=P from rfl)) _).set (p:=⟨P,0,none⟩) (.inl (show P=P from rfl)) _
 obtain ⟨v,xs,v1,v2,v3⟩:=h.p0
 obtain ⟨y0,hy⟩:=h.p1
 have q0:((w.setCell ⟨P,1,none⟩ y).setCell ⟨P,0,none⟩ (.slice none 0 0)).cell? ⟨P,0,none⟩=some (.slice none 0 0):=World.cell?_setCell_same' _ _ _ (by rw[World.cell?_setCell_other w ⟨P,1,none⟩ ⟨P,0,none⟩ _ (by first|(simp;done)|(simp;omega)),v1];rfl)
 have q1:((w.setCell ⟨P,1,none⟩ y).setCell ⟨P,0,none⟩ (.slice none 0 0)).cell? ⟨P,1,none⟩=some y:=(World.cell?_setCell_other _ ⟨P,0,none⟩ ⟨P,1,none⟩ _ (by first|(simp;done)|(simp;omega))).trans (World.cell?_setCell_same' _ _ _ (by rw[hy];rfl))
 refine ⟨⟨Nat.lt_of_lt_of_le h.lf k.size,Nat.lt_of_lt_of_le h.lp k.size,Nat.lt_of_lt_of_le h.lm k.size,h.nfp,h.nfm,h.npm,(k.cell (a:=⟨F,0,none⟩) h.lf h.nfp).trans h.f0,(k.cell (a:=⟨F,1,none⟩) h.lf h.nfp).trans h.f1,(k.cell (a:=⟨F,2,none⟩) h.lf h.nfp).trans h.f2,
  ⟨.slice none 0 0,[],q0,rfl,World.ownsRow_nil _ _ _ _⟩,⟨y,q1⟩,by rw[World.frozen?_setCell,World.frozen?_setCell];exact h.z0,by rw[World.frozen?_setCell,World.frozen?_setCell];exact h.z1,(fun _ e=>by cases e),fun i hi=>Nat.lt_of_lt_of_le (h.yl i hi) k.size,?_⟩,k⟩
 have hM:¬M=P:=fun e=>h.npm e.symm
 cases D with
 | none=>
  obtain ⟨clk,hb⟩:=h.mp
  exact ⟨clk,(k.block M h.lm hM).trans hb⟩
 | some l=>
  obtain ⟨clk,born,A,c,hb,hc,hr,hq⟩:=h.mp
  have h2:=hq.kp k (fun g _ hq e=>hq.1 e) hr
  exact ⟨clk,born,A,c,(k.block M h.lm hM).trans hb,hc,h2.1,h2.2.imp (fun g _ hq=>⟨hq.1,hq.2.1,(fun e=>by cases e),hq.2.2.2⟩)⟩
theorem FsM.map {w:World} {Y:Nat→Prop} {F P M:Nat} {R:Option Nat} {room:Int} {n:Nat} {D:Option (List UInt8)} (h:FsM Y w F P M R room n D):∃es clk,w.heap[M]?=some (.map es clk):=by
 cases D with
 | none=>obtain ⟨clk,hb⟩:=h.mp;exact ⟨_,clk,hb⟩
 | some l=>obtain ⟨clk,born,g,c,hb, -⟩:=h.mp;exact ⟨_,clk,hb⟩
def FlS (F P M:Nat) (W:World):Prop:=W.cell? ⟨F,0,none⟩=some (.pointer (some ⟨P,0,none⟩))∧W.cell? ⟨F,2,none⟩=some (.map (some M))
theorem sync_row {Y:Nat→Prop} {F P M:Nat} {R:Option Nat} {room:Int} {n:Nat} {D:Option (List UInt8)} (w:World) (h:FsM Y w F P M R room n D):Calls Tryz.prog 33 #[.pointer (some ⟨F,0,none⟩)] w fun e w'=>e= .returned (.tuple #[])∧FsM Y w' F P M none room 0 D∧Kp (fun k=>k=P) w w'∧∃Ms es clk,w'.cell? ⟨P,1,none⟩=some (.map (some Ms))∧w'.cell? ⟨P,0,none⟩=some (.slice none 0 0)∧w.heap.size≤Ms∧Ms<w'.heap.size∧w'.heap[Ms]?=some (.map es clk)∧∃clk2,w.heap[M]?=some (.map es clk2):=by
 have H0:=Lib.hid h
 clear h
 go_enter Tryz.func33,Tryz.ntmps33
 go_upto_region 1 with (fail)
 refine wp_region_Z 18 (FlS F P M) (by kernel_rfl) ?_
 have hd:Gr w w.drew:=Gr.drew (Gr.refl _)
 obtain ⟨W0,hW0⟩:∃W0,W0=w.drew:=⟨_,rfl⟩
 rw[←hW0] at hd ⊢
 clear hW0
 have H1:=Lib.hid (H0.out.gr hd)
 have hS0:FlS F P M W0:=⟨H1.out.f0,H1.out.f2⟩
 have HD:=Lib.hid hd
 clear hd
 refine zu 0 rfl hS0 (fun W hS=>by go_simp;rfl) ?_
 refine zu 1 rfl hS0 (fun W hS=>by go_simp;rfl) ?_
 refine zu 2 rfl hS0 (fun W hS=>by go_simp;rfl) ?_
 refine zu 3 rfl hS0 (fun W hS=>by have s0:=hS.1;go_simp;rfl) ?_
 refine zu 4 rfl hS0 (fun W hS=>by go_simp;rfl) ?_
 refine zu 5 rfl hS0 (fun W hS=>by go_simp;rfl) ?_
 refine zu 6 rfl hS0 (fun W hS=>by go_simp;rfl) ?_
 refine zu 7 rfl hS0 (fun W hS=>by have s0:=hS.1;go_simp;rfl) ?_
 refine zu 8 rfl hS0 (fun W hS=>by go_simp;rfl) ?_
 refine zu 9 rfl hS0 (fun W hS=>by go_simp;rfl) ?_
 refine zu 10 rfl hS0 (fun W hS=>by go_simp;rfl) ?_
 refine zu 11 rfl hS0 (fun W hS=>by have s2:=hS.2;go_simp;rfl) ?_
 refine wpAnyZ_ready (rs:=[12]) (by kernel_rfl) (by simp) ?_
 refine AllReadyZ.cons (i:=12) rfl (by kernel_rfl) ?zx1 AllReadyZ.nil
 intro K hK
 simp only[List.getElem_toArray,List.getElem_cons_succ,List.getElem_cons_zero]
 go_simp
 obtain ⟨es,clk,hb⟩:=H1.out.map
 refine (mapclone_any M es clk _ hb).mono ?_;rintro x W1 ⟨rfl,hW1⟩
 have HMS:=Lib.hid (show W0.heap.size<W1.heap.size∧W1.heap[W0.heap.size]?=some (.map es clk)∧w.heap[M]?=some (.map es clk) from ⟨by rw[hW1];simp,by rw[hW1];exact Array.getElem?_push_size,by rw[←Below.block HD.out M H0.out.lm];exact hb⟩)
 have HWS:=Lib.hid HD.out.size
 have g1:Gr W0 W1:=by rw[hW1];exact Gr.alloc (Gr.refl _) _
 have H2:=Lib.hid (H1.out.gr g1)
 have HG:=Lib.hid (HD.out.trans g1)
 have hS1:FlS F P M W1:=⟨H2.out.f0,H2.out.f2⟩
 clear hW1 g1 hb hS0
 go_wp2_with fail
 refine hK.out _ _ (fun hnz=>?zs2) (fun _=>?zr3)
 case zs2=>exact hS1
 clear hK K
 try (simp only[Pu,List.getElem_toArray,List.getElem_cons_succ,List.getElem_cons_zero])
 refine zu 13 rfl hS1 (fun W hS=>by go_simp;rfl) ?_
 refine zu 14 rfl hS1 (fun W hS=>by go_simp;rfl) ?_
 refine wpAnyZ_ready (rs:=[15]) (by kernel_rfl) (by simp) ?_
 refine AllReadyZ.cons (i:=15) rfl (by kernel_rfl) ?zx4 AllReadyZ.nil
 intro K hK
 simp only[List.getElem_toArray,List.getElem_cons_succ,List.getElem_cons_zero]
 obtain ⟨y0,p1⟩:=H2.out.p1
 have z1:=H2.out.z1
 go_simp
 have hS2:FlS F P M (W1.setCell ⟨P,1,none⟩ (.map (some W0.heap.size))):=⟨(World.cell?_setCell_far W1 ⟨P,1,none⟩ ⟨F,0,none⟩ _ (fun e=>H2.out.nfp e.symm)).trans hS1.1,(World.cell?_setCell_far W1 ⟨P,1,none⟩ ⟨F,2,none⟩ _ (fun e=>H2.out.nfp e.symm)).trans hS1.2⟩
 refine hK.out _ _ (fun hnz=>?zs5) (fun _=>?zr6)
 case zs5=>exact hS2
 clear hK K
 try (simp only[Pu,List.getElem_toArray,List.getElem_cons_succ,List.getElem_cons_zero])
 refine zu 16 rfl hS2 (fun W hS=>by go_simp;rfl) ?_
 refine zu 17 rfl hS2 (fun W hS=>by go_simp;rfl) ?_
 refine wpAnyZ_ready (rs:=[18]) (by kernel_rfl) (by simp) ?_
 refine AllReadyZ.cons (i:=18) rfl (by kernel_rfl) ?zx7 AllReadyZ.nil
 intro K hK
 simp only[List.getElem_toArray,List.getElem_cons_succ,List.getElem_cons_zero]
 obtain ⟨v,xs,v1, -, -⟩:=H2.out.p0
 have q0:(W1.setCell ⟨P,1,none⟩ (.map (some W0.heap.size))).cell? ⟨P,0,none⟩=some v:=(World.cell?_setCell_other W1 ⟨P,1,none⟩ ⟨P,0,none⟩ _ (by first|(simp;done)|(simp;omega))).trans v1
 have z0:(W1.setCell ⟨P,1,none⟩ (.map (some W0.heap.size))).frozen? ⟨P,0,none⟩=false:=by rw[World.frozen?_setCell];exact H2.out.z0
 have HY:=Lib.hid (H2.out.synced (.map (some W0.heap.size)))
 go_simp
 refine hK.out _ _ (fun hnz=>?zs8) (fun _=>?zr9)
 case zs8=>exact absurd rfl hnz
 clear hK K
 try (simp only[Pu,List.getElem_toArray,List.getElem_cons_succ,List.getElem_cons_zero])
 refine wpAnyZ_done (by kernel_rfl) ?_ _
 go_wp2
 go_end0
 refine ⟨rfl,HY.out.1,(Kp.of_gr _ HG.out).trans HY.out.2 (fun _ _ h=>h),W0.heap.size,es,clk,?_,?_,HWS.out,Nat.lt_of_lt_of_le HMS.out.1 HY.out.2.size,?_,clk,HMS.out.2.2⟩
 ·
  exact (World.cell?_setCell_other _ ⟨P,0,none⟩ ⟨P,1,none⟩ _ (by first|(simp;done)|(simp;omega))).trans (World.cell?_setCell_same' _ _ _ (by rw[p1];rfl))
 ·
  exact World.cell?_setCell_same' _ _ _ (by rw[q0];rfl)
 ·
  exact (HY.out.2.block _ HMS.out.1 (fun e=>by have:=H0.out.lp;have:=HWS.out;omega)).trans HMS.out.2.1
theorem sync_any {Y:Nat→Prop} {F P M:Nat} {R:Option Nat} {room:Int} {n:Nat} {D:Option (List UInt8)} (w:World) (h:FsM Y w F P M R room n D):Calls Tryz.prog 33 #[.pointer (some ⟨F,0,none⟩)] w fun e w'=>e= .returned (.tuple #[])∧FsM Y w' F P M none room 0 D∧Kp (fun k=>k=P) w w':=
 (sync_row w h).mono fun e w' q=>⟨q.1,q.2.1,q.2.2.1⟩
end
section
open Go.RowKit Go.ChangeMaps Go.Maps
structure Chg where
 off:Nat
 dat:List UInt8
 g:Nat
 d:Nat
def chgC (c:Chg):List Value:=[.int .i64 1, .string nmA, .int .i64 c.off, .slice (some ⟨c.g,0,none⟩) c.dat.length c.d]
def chgP (c:Chg):Nat×List UInt8:=(c.off,c.dat)
theorem chgC_at:∀(l:List Chg) (k:Nat) (h:k<l.length) (i:Nat),i<4→(l.flatMap chgC)[k*4+i]?=(chgC l[k])[i]?
 | c::r,0,_,i,hi=>by
  rw[List.flatMap_cons,Nat.zero_mul,Nat.zero_add,List.getElem?_append_left (by simp[chgC];omega)]
  rfl
 | c::r,k+1,h,i,hi=>by
  have hl:(chgC c).length=4:=rfl
  rw[List.flatMap_cons,List.getElem?_append_right (by rw[hl];omega),hl,show (k+1)*4+i-4=k*4+i by omega,chgC_at r k (by simpa using h) i hi]
  rfl
structure PnM (w:World) (F P M:Nat) (R:Option Nat) (Ms:Nat) (D0:List UInt8) (l:List Chg):Prop where
 p0:∃v,w.cell? ⟨P,0,none⟩=some v∧v.ownBlock=R∧w.ownsRow 0 115 4 v l.length (l.flatMap chgC)
 p1:w.cell? ⟨P,1,none⟩=some (.map (some Ms))
 ls:Ms<w.heap.size∧Ms≠F∧Ms≠P∧Ms≠M∧R≠some Ms
 ms:MpA w Ms (fun g=>g≠F∧g≠P∧g≠M∧R≠some g) (some D0)
 rw:∀c∈l,c.dat.length≤c.d∧Rb w (some ⟨c.g,0,none⟩) c.dat∧c.g<w.heap.size∧c.g≠F∧c.g≠P∧c.g≠M∧R≠some c.g
theorem MpA.kp {w w':World} {M:Nat} {Q:Nat→Prop} {l:List UInt8} {S:Nat→Prop} (h:MpA w M Q (some l)) (k:Kp S w w') (hl:M<w.heap.size) (hM:¬S M) (hS:∀g,g<w.heap.size→Q g→¬S g):MpA w' M Q (some l):=by
 obtain ⟨clk,born,A,c,hb,hc,hr,hq⟩:=h
 have h2:=hq.kp k hS hr
 exact ⟨clk,born,A,c,(k.block M hl hM).trans hb,hc,h2.1,h2.2⟩
theorem PnM.gr {w w':World} {F P M:Nat} {R:Option Nat} {Ms:Nat} {D0:List UInt8} {l:List Chg} (h:PnM w F P M R Ms D0 l) (g:Gr w w') (lP:P<w.heap.size):PnM w' F P M R Ms D0 l:=by
 obtain ⟨v,v1,v2,v3⟩:=h.p0
 exact ⟨⟨v,(Below.cell g (p:=⟨P,0,none⟩) lP).trans v1,v2,own_grU v3 g⟩,(Below.cell g (p:=⟨P,1,none⟩) lP).trans h.p1,⟨Nat.lt_of_lt_of_le h.ls.1 g.size,h.ls.2⟩,h.ms.kp (Kp.of_gr (fun _=>False) g) h.ls.1 (fun e=>e) (fun _ _ _ e=>e),fun c hc=>by
  obtain ⟨a1,a2,a3,a4⟩:=h.rw c hc
  exact ⟨a1,a2.gr g,Nat.lt_of_lt_of_le a3 g.size,a4⟩⟩
theorem FsM.notF {w:World} {Y:Nat→Prop} {F P M:Nat} {R:Option Nat} {room:Int} {n:Nat} {D:Option (List UInt8)} (h:FsM Y w F P M R room n D) {l:List UInt8} (h0:0<l.length) {g:Nat} (hr:Rb w (some ⟨g,0,none⟩) l):g≠F:=fun e=>by
 subst e
 obtain ⟨ad,e2, -,hc⟩:=hr.at h0
 injection e2 with e2
 subst e2
 have:(⟨g,0,none⟩:Addr).add 0=⟨g,0,none⟩:=rfl
 rw[this,h.f0] at hc
 injection hc with hc
 cases hc
theorem sync_pnd {Y:Nat→Prop} {F P M:Nat} {R:Option Nat} {room:Int} {n:Nat} {l:List UInt8} (h0:0<l.length) (w:World) (h:FsM Y w F P M R room n (some l)):Calls Tryz.prog 33 #[.pointer (some ⟨F,0,none⟩)] w fun e w'=>e= .returned (.tuple #[])∧FsM Y w' F P M none room 0 (some l)∧Kp (fun k=>k=P) w w'∧∃Ms,PnM w' F P M none Ms l []:=by
 refine (sync_row w h).mono ?_
 rintro e w' ⟨e1,hf,hk,Ms,es,clk,hp1,hp0,hMs,hMs2,hb,clk2,hb2⟩
 refine ⟨e1,hf,hk,Ms,⟨_,hp0,rfl,World.ownsRow_nil _ _ _ _⟩,hp1,⟨hMs2,?_,?_,?_,fun e=>by cases e⟩,?_,fun c hc=>by cases hc⟩
 ·
  have:=h.lf;omega
 ·
  have:=h.lp;omega
 ·
  have:=h.lm;omega
 ·
  obtain ⟨clk3,born,A,c,hb3,hc,hr,hq⟩:=h.mp
  rw[hb2] at hb3
  injection hb3 with hb3
  injection hb3 with hb3 _
  subst hb3
  obtain ⟨g,rfl,hg,hx⟩:=hq.pos h0
  have hr':Rb w' (some ⟨g,0,none⟩) l:=hk.rd hr (fun _ ad e=>by injection e with e;rw[←e];exact hx.1)
  exact ⟨clk,born,_,c,hb,hc,hr', .inr ⟨g,rfl,Nat.lt_of_lt_of_le hg hk.size,h.notF h0 hr,hx.1,hx.2.1,fun e=>by cases e⟩⟩
theorem writeAt_pnd {Y:Nat→Prop} {F P M:Nat} {R:Option Nat} {room:Int} {Ms:Nat} {D0:List UInt8} {cs:List Chg} (l m:List UInt8) (o pb c:Nat) (hl:(l.length:Int)≤1073741824) (hm:0<m.length) (hom:o+m.length≤l.length) (hn:cs.length≤1000000) (w:World) (h:FsM Y w F P M R room cs.length (some l)) (hq:PnM w F P M R Ms D0 cs) (hp:Pts w pb [m]) :
  Calls Tryz.prog 62 #[.pointer (some ⟨F,0,none⟩), .string nmA, .int .i64 o, .slice (some ⟨pb,0,none⟩) 1 c] w fun e w'=>e= .returned (.int .i64 0)∧∃R' g d,FsM Y w' F P M R' room (cs.length+1) (some (putB l o m))∧PnM w' F P M R' Ms D0 (cs++[⟨o,m,g,d⟩])∧Kp (Tch P M R) w w'∧∀i,R'=some i→R=some i∨w.heap.size≤i:=by
 obtain ⟨v0,v1,v2,v3⟩:=hq.p0
 refine (writeAt_row l m o pb c hl hm hom hn w h v0 _ v1 v3 hp).mono ?_
 rintro e w' ⟨e1,R',hf,hk,hR,g,d,hg,hg2,hd,hrb,⟨v',q1,q2,q3⟩,q4⟩
 have hlP:∀q,q<w.heap.size→q≠P→q≠M→R≠some q→¬Tch P M R q:=fun q _ h1 h2 h3 e=>by
  rcases e with e|e|e
  ·
   exact h1 e
  ·
   exact h2 e
  ·
   exact h3 e
 have hR2:∀q,q<w.heap.size→R≠some q→R'≠some q:=fun q hq h1 e=>by
  rcases hR q e with e|e
  ·
   exact h1 e
  ·
   omega
 have hRl:∀i,R'=some i→i<w'.heap.size:=fun i e=>by
  obtain ⟨v,xs,a1,a2,a3⟩:=hf.p0
  exact (a3.lt i (by rw[a2];exact e)).2
 have hRg:R'≠some g:=fun e=>by
  rcases hR g e with e2|e2
  ·
   have:=(v3.lt g (by rw[v2];exact e2)).2
   omega
  ·

   obtain ⟨A,cp,rfl⟩:=own_form q3
   obtain ⟨ad,ea,hb,hc⟩:=(Rd.own q3).2 (by omega)
   subst ea
   have hc0:=hc 0 (.int .i64 1) (by
    cases cs with
    | nil=>rfl
    | cons x r=>rfl)
   obtain ⟨h1,⟨hv, -⟩|⟨g',cap,cur,hv, -⟩⟩:=q3
   ·
    cases hv
   ·
    injection hv with hv _ _
    injection hv with hv
    subst hv
    rw[e] at q2
    simp only[Value.ownBlock] at q2
    injection q2 with q2
    subst q2
    obtain ⟨ad,e2, -,hcc⟩:=hrb.at hm
    injection e2 with e2
    subst e2
    rw[hc0] at hcc
    injection hcc with hcc
    injection hcc with hk2 _
    cases hk2
 refine ⟨e1,R',g,d,hf,⟨⟨v',q1,q2,?_⟩,q4.trans hq.p1,?_,?_,?_⟩,hk,hR⟩
 ·
  rw[List.length_append,List.flatMap_append]
  simpa [chgC] using q3
 ·
  obtain ⟨a1,a2,a3,a4,a5⟩:=hq.ls
  exact ⟨Nat.lt_of_lt_of_le a1 hk.size,a2,a3,a4,hR2 _ a1 a5⟩
 ·
  obtain ⟨a1,a2,a3,a4,a5⟩:=hq.ms
  have h3:=a5.2.2.2 
  have hb:=a5.2.2.2.imp (Q':=fun g=>(g≠F∧g≠P∧g≠M∧R'≠some g)∧¬Tch P M R g) (fun g hg hx=>⟨⟨hx.1,hx.2.1,hx.2.2.1,hR2 g hg hx.2.2.2⟩,hlP g hg hx.2.1 hx.2.2.1 hx.2.2.2⟩)
  have h2:=hb.kp hk (fun g _ hx=>hx.2) a5.2.2.1
  exact ⟨a1,a2,a3,a4,(hk.block Ms hq.ls.1 (hlP _ hq.ls.1 hq.ls.2.2.1 hq.ls.2.2.2.1 hq.ls.2.2.2.2)).trans a5.1,a5.2.1,h2.1,h2.2.imp (fun _ _ hx=>hx.1)⟩
 ·
  intro x hx
  rcases List.mem_append.1 hx with hx|hx
  ·
   obtain ⟨a1,a2,a3,a4,a5,a6,a7⟩:=hq.rw x hx
   exact ⟨a1,hk.rd a2 (fun _ ad e=>by injection e with e;rw[←e];exact hlP _ a3 a5 a6 a7),Nat.lt_of_lt_of_le a3 hk.size,a4,a5,a6,hR2 _ a3 a7⟩
  ·
   rw[List.mem_singleton] at hx
   subst hx
   have l1:=h.lf
   have l2:=h.lp
   have l3:=h.lm
   exact ⟨hd,hrb,hg2,(fun e=>by simp only at e;omega),(fun e=>by simp only at e;omega),(fun e=>by simp only at e;omega),hRg⟩
end
theorem FsM.weak {Y:Nat→Prop} {w:World} {F P M:Nat} {R:Option Nat} {room:Int} {n:Nat} {D:Option (List UInt8)} (h:FsM Y w F P M R room n D):FsM (fun _=>False) w F P M R room n D:=
 h.more (Gr.refl w) (fun _ e=>e.elim) (fun _ e=>e.elim)
theorem wupdate_row {Y:Nat→Prop} {F P M:Nat} {R:Option Nat} {room:Int} {n:Nat} {D:List UInt8} {ag xf:Nat} {m:Arcs} (hD:(D.length:Int)≤1073741824) (ho:opS D=some (ag,xf,m)) (now:Int) (hnow1:1≤now) (hnow2:now≤4294967295) (A:Option Addr) (c:Nat) (L:List (Int×Int)) (hL:L.length≤1000) (hn:n≤900000) (w:World) (h:FsM Y w F P M R room n (some D)) (hr:Ri w A L) (hA:0<L.length→∀ad,A=some ad→¬Tch P M R ad.block) :
  Calls Tryz.prog 23 #[.pointer (some ⟨F,0,none⟩), .string nmA, .int .i64 now, .slice A L.length c] w fun e w'=>e= .returned (.tuple #[.int .i64 ((updS ag xf m now L (0,D)).1:Nat), .int .i64 0])∧FsM (fun _=>False) w' F P M none room 0 (some (updS ag xf m now L (0,D)).2)∧Kp (Tch P M R) w w'∧∃Ms,PnM w' F P M none Ms (updS ag xf m now L (0,D)).2 []:=by
 have HOP:=Lib.hid (open_any D hD w h)
 have HOD:=Lib.hid ho
 have H0:=Lib.hid h
 have HNW:Hid ((decide (1≤now)&&decide (now≤4294967295))=true):=Lib.hid (by rw[decide_eq_true hnow1,decide_eq_true hnow2];rfl)
 obtain ⟨U,hU⟩:∃U,U=updS ag xf m now L (0,D):=⟨_,rfl⟩
 rw[←hU]
 have HU:=Lib.hid hU
 have HR:=Lib.hid (And.intro hr hA)
 have hLi:(L.length:Int)≤1000:=by omega
 clear h hD ho hU hr hA
 go_enter Tryz.func23,Tryz.ntmps23
 go_wp2_with (first|(go_at_call 44;refine HOP.out.mono ?_;rintro e w1 ⟨g1,h1⟩;rw[HOD.out] at h1;obtain ⟨X,b,cc,g,d,rfl,hfi,hgw⟩:=h1;have H1:=Lib.hid (And.intro g1 (And.intro hfi hgw));clear g1 hfi hgw)|(go_at_call 57;refine (isNow_any now _).mono ?_;rintro e w2 ⟨rfl,rfl⟩;rw[HNW.out]))
 go_loopw [12,29] (fun nn j wr=>∃(q kq:Nat) (Rq:Option Nat) (nq:Nat) (Dq:List UInt8),q≤L.length∧j= .int .i64 q∧nn= .int .i64 kq∧kq≤q∧nq≤n+27*q∧FiM wr X F P M Rq room nq ag xf b cc m g d Dq∧Kp (Tcg P M R g) w1 wr∧(∀z,Rq=some z→R=some z∨w1.heap.size≤z)∧Hid (U=updS ag xf m now (L.drop q) (kq,Dq))) (fun _ j _=>L.length-(intOf j).toNat)
 case atStart=>exact ⟨0,0,R,n,D,Nat.zero_le _,rfl,rfl,Nat.le_refl _,by omega,H1.out.2.1,Kp.refl _ _,fun _ e=> .inl e,Lib.hid (by rw[List.drop_zero];exact HU.out)⟩
 case round=>
  obtain ⟨q,kq,Rq,nq,Dq,hq,rfl,rfl,hkq,hnq,hfi,hkp,hRq,HUP⟩:=hrel
  by_cases hlt:q<L.length
  ·
   have hlti:(q:Int)<(L.length:Int):=by omega
   obtain ⟨pb,rfl,hpb,hcs⟩:=HR.out.1 (by omega)
   have hnT:∀z,¬Tcg P M R g (pb.add z).block:=fun z e=>by
    rw[adB] at e
    rcases e with e|e
    ·
     exact HR.out.2 (by omega) _ rfl e
    ·
     have:=H1.out.2.2;omega
   have hpz:∀z,(pb.add z).block<w.heap.size:=fun z=>by rw[adB];exact hpb
   have hp1:∀z,(pb.add z).block<w1.heap.size:=fun z=>Nat.lt_of_lt_of_le (hpz z) H1.out.1.size
   have a0:=(hkp.cell (a:=pb.add (q*2)) (hp1 _) (hnT _)).trans ((Below.cell H1.out.1 (p:=pb.add (q*2)) (hpz _)).trans (hcs q hlt).1)
   have a1:=(hkp.cell (a:=⟨(pb.add (q*2)).block,(pb.add (q*2)).off+1,none⟩) (hp1 _) (hnT _)).trans ((Below.cell H1.out.1 (p:=⟨(pb.add (q*2)).block,(pb.add (q*2)).off+1,none⟩) (hpz _)).trans (hcs q hlt).2)
   obtain ⟨t,v,hp⟩:∃t v,L[q]=(t,v):=⟨_,_,rfl⟩
   rw[hp] at a0 a1
   simp only at a0 a1
   have hdr:L.drop q=(t,v)::L.drop (q+1):=by rw[←hp];exact List.drop_eq_getElem_cons hlt
   rw[hdr] at HUP
   obtain ⟨V,hV⟩:∃V,V=wr.alloc (.cells #[.int .i64 t, .int .i64 v] 54):=⟨_,rfl⟩
   have gV:Gr wr V:=by rw[hV];exact Gr.alloc (Gr.refl wr) _
   have b0:V.cell? ⟨wr.heap.size,0,none⟩=some (.int .i64 t):=by rw[hV];go_simp
   have b1:V.cell? ⟨wr.heap.size,1,none⟩=some (.int .i64 v):=by rw[hV];go_simp
   have hz:wr.heap.size<V.heap.size:=by rw[hV];simp
   obtain ⟨og,hog⟩:∃og,og=laysS ag xf m Dq t v now:=⟨_,rfl⟩
   have hla:=wlays_any t v now hnow2 (by omega) V (hfi.gr gV)
   rw[←hog] at hla
   have HLA:=Lib.hid hla
   have HV:=Lib.hid hV
   have HGV:=Lib.hid gV
   have HKP:=Lib.hid (And.intro hkp hRq)
   have HLE:=Lib.hid (And.intro hlt (And.intro hnq hkq))
   have hkqi:(kq:Int)≤1000:=by omega
   clear hla hV gV hkp hRq hfi hcs hnT hp1 hpz hpb hp hdr hnq hkq
   go_upto_region 10 with (fail)
   rw[←HV.out]
   clear HV a0 a1
   have HFIN:Hid (∀(w8:World) (R8:Option Nat) (n8:Nat) (D8:List UInt8),n8≤nq+27→FiM w8 X F P M R8 room n8 ag xf b cc m g d D8→Kp (Tcg P M Rq g) V w8→(∀z,R8=some z→Rq=some z∨V.heap.size≤z)→n8≤n+27*(q+1)∧FiM w8 X F P M R8 room n8 ag xf b cc m g d D8∧Kp (Tcg P M R g) w1 w8∧∀z,R8=some z→R=some z∨w1.heap.size≤z):=Lib.hid (fun w8 R8 n8 D8 e1 e2 e3 e4=>⟨by have:=HLE.out.2.1;omega,e2,HKP.out.1.trans ((Kp.of_gr (Tcg P M Rq g) HGV.out).trans e3 (fun _ _ e=>e)) (tcg_sub HKP.out.2),fun z hz=>(e4 z hz).elim (HKP.out.2 z) (fun e=> .inr (Nat.le_trans (Nat.le_trans HKP.out.1.size HGV.out.size) e))⟩)
   cases og with
   | none=>
    have HE:Hid (U=updS ag xf m now (L.drop (q+1)) (kq,Dq)):=Lib.hid (by rw[HUP.out,updS,←hog])
    clear hog HUP
    go_wp2_with (go_at_call 58;refine HLA.out.mono ?_;rintro e w8 ⟨rfl,R8,n8,hn8,hf8,hk8,hr8⟩;have H8:=HFIN.out w8 R8 n8 Dq hn8 hf8 hk8 hr8;have H8:=Lib.hid H8;clear hn8 hf8 hk8 hr8)
    go_roundw
    case rel=>exact ⟨q+1,kq,R8,n8,Dq,HLE.out.1,by go_num,rfl,by have:=HLE.out.2.2;omega,H8.out.1,H8.out.2.1,H8.out.2.2.1,H8.out.2.2.2,HE⟩
    case measure=>have:=HLE.out.1;simp[intOf];omega
   | some D8=>
    have HE:Hid (U=updS ag xf m now (L.drop (q+1)) (kq+1,D8)):=Lib.hid (by rw[HUP.out,updS,←hog])
    clear hog HUP
    go_wp2_with (go_at_call 58;refine HLA.out.mono ?_;rintro e w8 ⟨rfl,R8,n8,hn8,hf8,hk8,hr8⟩;have H8:=HFIN.out w8 R8 n8 D8 hn8 hf8 hk8 hr8;have H8:=Lib.hid H8;clear hn8 hf8 hk8 hr8)
    go_roundw
    case rel=>exact ⟨q+1,kq+1,R8,n8,D8,HLE.out.1,by go_num,by go_num,by have:=HLE.out.2.2;omega,H8.out.1,H8.out.2.1,H8.out.2.2.1,H8.out.2.2.2,HE⟩
    case measure=>have:=HLE.out.1;simp[intOf];omega
  ·
   have hqe:q=L.length:=by omega
   subst hqe
   rw[List.drop_length] at HUP
   have hU:U=(kq,Dq):=HUP.out
   have HFK:=Lib.hid (And.intro hfi.fs.weak (And.intro hkp hRq))
   have HUE:=Lib.hid hU
   have hD90:0<Dq.length:=by
    have h1:=hfi.len
    have h2:=(atS_in (MayF.ofH hfi.may) (MayF.ofH hfi.may).l1 0)
    omega
   clear hfi hkp hRq hU
   go_wp2_with (go_at_call 33;refine (sync_pnd hD90 _ HFK.out.1).mono ?_;rintro e w9 ⟨rfl,hF,hK,hPn⟩;have H9:=Lib.hid (And.intro hF hK);have HPN:=Lib.hid hPn;clear hF hK hPn)
   go_ret2
   rw[HUE.out]
   refine ⟨rfl,H9.out.1,(((Kp.of_gr (Tch P M R) H1.out.1).trans HFK.out.2.1 (fun i hi e=>?_)).trans H9.out.2 (fun i _ e=> .inl e)),HPN.out⟩
   rcases e with e|e
   ·
    exact e
   ·
    have:=H1.out.2.2;omega
theorem wupdate_wk {Y:Nat→Prop} {F P M:Nat} {R:Option Nat} {room:Int} {n:Nat} {D:List UInt8} {ag xf:Nat} {m:Arcs} (hD:(D.length:Int)≤1073741824) (ho:opS D=some (ag,xf,m)) (now:Int) (hnow1:1≤now) (hnow2:now≤4294967295) (A:Option Addr) (c:Nat) (L:List (Int×Int)) (hL:L.length≤1000) (hn:n≤900000) (w:World) (h:FsM Y w F P M R room n (some D)) (hr:Ri w A L) (hA:0<L.length→∀ad,A=some ad→¬Tch P M R ad.block) :
  Calls Tryz.prog 23 #[.pointer (some ⟨F,0,none⟩), .string nmA, .int .i64 now, .slice A L.length c] w fun e w'=>e= .returned (.tuple #[.int .i64 ((updS ag xf m now L (0,D)).1:Nat), .int .i64 0])∧FsM (fun _=>False) w' F P M none room 0 (some (updS ag xf m now L (0,D)).2)∧Kp (Tch P M R) w w':=
 (wupdate_row hD ho now hnow1 hnow2 A c L hL hn w h hr hA).mono fun e w' q=>⟨q.1,q.2.1,q.2.2.1⟩
theorem wupdate_any {Y:Nat→Prop} {F P M:Nat} {R:Option Nat} {room:Int} {n:Nat} {D:List UInt8} {ag xf:Nat} {m:Arcs} (hD:(D.length:Int)≤1073741824) (ho:opS D=some (ag,xf,m)) (now:Int) (hnow1:1≤now) (hnow2:now≤4294967295) (A:Option Addr) (c:Nat) (L:List (Int×Int)) (hL:L.length≤1000) (hn:n≤900000) (w:World) (h:FsM Y w F P M R room n (some D)) (hr:Ri w A L) (hA:∀ad,A=some ad→¬Tch P M R ad.block) :
  Calls Tryz.prog 23 #[.pointer (some ⟨F,0,none⟩), .string nmA, .int .i64 now, .slice A L.length c] w fun e w'=>e= .returned (.tuple #[.int .i64 ((updS ag xf m now L (0,D)).1:Nat), .int .i64 0])∧FsM (fun _=>False) w' F P M none room 0 (some (updS ag xf m now L (0,D)).2)∧Kp (Tch P M R) w w':=
 wupdate_wk hD ho now hnow1 hnow2 A c L hL hn w h hr (fun _=>hA)
end Go.Proofs.YtoncapkmaeghfaaGreat
