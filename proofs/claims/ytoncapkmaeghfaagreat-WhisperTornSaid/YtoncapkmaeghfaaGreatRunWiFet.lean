import Derived.Test.YtoncapkmaeghfaaGreatRunRwInf
import Derived.Test.YtoncapkmaeghfaaGreatRunFxBase
import Derived.Test.YtoncapkmaeghfaaGreatRunWiMay
import Derived.Test.YtoncapkmaeghfaaGreatRunWiHdr
set_option linter.all false
set_option maxRecDepth 1000000
set_option maxHeartbeats 12800000
namespace Go.Proofs.YtoncapkmaeghfaaGreat
open Go.RowKit
theorem which_at {m:Arcs} {d:Int} {k:Nat} (hk:k<m.length-1) (h:d≤(stpS m k:Int)*cntS m k) (hb:∀j,j<k→¬d≤(stpS m j:Int)*cntS m j):whichS m d=k:=by
 unfold whichS
 have hl:k<(m.take (m.length-1)).length:=by rw[List.length_take];omega
 refine (List.findIdx_eq hl).2 ⟨?_,fun j hj=>?_⟩
 ·
  rw[List.getElem_take,←stpS_at (by omega),←cntS_at (by omega)];exact decide_eq_true h
 ·
  rw[List.getElem_take,←stpS_at (by omega),←cntS_at (by omega)];exact decide_eq_false (hb j hj)
theorem which_last {m:Arcs} {d:Int} (h1:1≤m.length) (hb:∀j,j<m.length-1→¬d≤(stpS m j:Int)*cntS m j):whichS m d=m.length-1:=by
 unfold whichS
 have hl:(m.take (m.length-1)).length=m.length-1:=by rw[List.length_take];omega
 conv=>rhs;rw[←hl]
 refine List.findIdx_eq_length.2 fun x hx=>?_
 obtain ⟨j,hj,e⟩:=List.mem_iff_getElem.1 hx
 rw[List.length_take] at hj
 rw[←e,List.getElem_take,←stpS_at (by omega),←cntS_at (by omega)]
 exact decide_eq_false (hb j (by omega))
theorem align_mod {t step:Int} (h:1≤step) (h':0≤t):∃k:Int,alignS t step=k*step∧0≤k:=by
 rw[alignS_of h h']
 refine ⟨t/step,?_,Int.ediv_nonneg h' (by omega)⟩
 have:=Int.mul_ediv_add_emod t step
 rw[Int.mul_comm] at this
 omega
def manyS (m:Arcs) (i:Nat) (fr un:Int):Nat:=((endW m i fr un-startS m i fr)/stpS m i).toNat
theorem many_eq {m:Arcs} {i:Nat} {fr un:Int} (h:1≤stpS m i) (h1:0≤fr) (h2:0≤un):startS m i fr+manyS m i fr un*stpS m i=endW m i fr un∧1≤manyS m i fr un:=by
 obtain ⟨a,ha,ha0⟩:=align_mod (t:=fr+stpS m i) (step:=(stpS m i:Int)) (by omega) (by omega)
 obtain ⟨b,hb,hb0⟩:=align_mod (t:=un+stpS m i) (step:=(stpS m i:Int)) (by omega) (by omega)
 have hs:startS m i fr=a*stpS m i:=ha
 have he:endW m i fr un=max (b*stpS m i) (a*stpS m i+stpS m i):=by unfold endW;rw[hb,hs]
 have hc:∃c:Int,endW m i fr un=c*stpS m i∧a+1≤c:=by
  rw[he]
  by_cases hba:a+1≤b
  ·
   refine ⟨b,?_,hba⟩
   have:(a+1)*(stpS m i:Int)≤b*stpS m i:=Int.mul_le_mul_of_nonneg_right hba (by omega)
   rw[Int.add_mul,Int.one_mul] at this
   omega
  ·
   refine ⟨a+1,?_,Int.le_refl _⟩
   have:b*(stpS m i:Int)≤a*stpS m i:=Int.mul_le_mul_of_nonneg_right (by omega) (by omega)
   rw[Int.add_mul,Int.one_mul]
   omega
 obtain ⟨c,hc1,hc2⟩:=hc
 have hq:(endW m i fr un-startS m i fr)/stpS m i=c-a:=by
  rw[hc1,hs,←Int.sub_mul,Int.mul_ediv_cancel _ (by omega)]
 unfold manyS
 rw[hq,hc1,hs]
 have:((c-a).toNat:Int)=c-a:=by omega
 rw[this,Int.sub_mul]
 omega
structure SrB (w:World) (sb:Nat) (st S:Int) (v:Value):Prop where
 c0:w.cell? ⟨sb,0,none⟩=some (.string nmA)
 c1:w.cell? ⟨sb,1,none⟩=some (.int .i64 st)
 c2:w.cell? ⟨sb,2,none⟩=some (.int .i64 S)
 c3:w.cell? ⟨sb,3,none⟩=some v
 c4:w.cell? ⟨sb,4,none⟩=some (.int .i64 0)
 f3:w.frozen? ⟨sb,3,none⟩=false
 lt:sb<w.heap.size
theorem SrB.kp {w w':World} {sb:Nat} {st S:Int} {v:Value} {T:Nat→Prop} (h:SrB w sb st S v) (k:Kp T w w') (hn:¬T sb):SrB w' sb st S v:=
 ⟨(k.cell (a:=⟨sb,0,none⟩) h.lt hn).trans h.c0,(k.cell (a:=⟨sb,1,none⟩) h.lt hn).trans h.c1,(k.cell (a:=⟨sb,2,none⟩) h.lt hn).trans h.c2,(k.cell (a:=⟨sb,3,none⟩) h.lt hn).trans h.c3,(k.cell (a:=⟨sb,4,none⟩) h.lt hn).trans h.c4,(k.frozen (a:=⟨sb,3,none⟩) h.lt hn).trans h.f3,Nat.lt_of_lt_of_le h.lt k.size⟩
theorem SrB.put {w:World} {sb:Nat} {st S:Int} {v:Value} (h:SrB w sb st S v) (u:Value):SrB (w.setCell ⟨sb,3,none⟩ u) sb st S u:=by
 have e:∀o,o≠3→(w.setCell ⟨sb,3,none⟩ u).cell? ⟨sb,o,none⟩=w.cell? ⟨sb,o,none⟩:=fun o ho=>World.cell?_setCell_other w ⟨sb,3,none⟩ ⟨sb,o,none⟩ u (by first|(simp[ho];done)|(simp;omega))
 exact ⟨(e 0 (by decide)).trans h.c0,(e 1 (by decide)).trans h.c1,(e 2 (by decide)).trans h.c2,World.cell?_setCell_same' _ _ _ (by rw[h.c3];rfl),(e 4 (by decide)).trans h.c4,by rw[World.frozen?_setCell];exact h.f3,by simpa using h.lt⟩
theorem SrB.c3K {w W:World} {sb:Nat} {st S:Int} {v:Value} {T:Nat→Prop} (h:SrB w sb st S v∧¬T sb) (k:Kp T w W):W.cell? ⟨sb,3,none⟩=some v:=(h.1.kp k h.2).c3
theorem gr_over {w w1 w2:World} {sb:Nat} (g:Gr w w1) (k:Kp (fun q=>q=sb) w1 w2) (hs:w.heap.size≤sb):Gr w w2:=
 ((Kp.of_gr (fun q=>q=sb) g).trans k (fun _ _ e=>e)).gr (fun i hi e=>by omega)
def fetV (m:Arcs) (D:List UInt8) (now frm unt:Int):List Vl:=valsS m D (whichS m (now-frS m now frm)) (startS m (whichS m (now-frS m now frm)) (frS m now frm)) (manyS m (whichS m (now-frS m now frm)) (frS m now frm) (min unt now))
def RetFe (m:Arcs) (D:List UInt8) (now frm unt:Int) (w:World) (e:Ending) (w':World):Prop:=
 Gr w w'∧∃A c,e= .returned (.tuple #[.agg #[.string nmA, .int .i64 (startS m (whichS m (now-frS m now frm)) (frS m now frm)), .int .i64 (stpS m (whichS m (now-frS m now frm)):Nat), .slice A (fetV m D now frm unt).length c, .int .i64 0], .int .i64 0])∧Rv w' A (fetV m D now frm unt)
theorem wfetch_any {Y:Nat→Prop} {F P M:Nat} {R:Option Nat} {room:Int} {n:Nat} {D:List UInt8} {ag xf:Nat} {m:Arcs} (hD:(D.length:Int)≤1073741824) (ho:opS D=some (ag,xf,m)) (now frm unt:Int) (hnow1:1≤now) (hnow2:now≤4294967295) (h1:frm≤unt) (h2:frm≤now) (h3:0≤unt) (h4:now-spanS m≤unt) (w:World) (h:FsM Y w F P M R room n (some D)) :
  Calls Tryz.prog 36 #[.pointer (some ⟨F,0,none⟩), .string nmA, .int .i64 now, .int .i64 frm, .int .i64 unt] w (RetFe m D now frm unt w):=by
 obtain ⟨v0,hv0,vz0,vz1,vz2⟩:=info_parts info_val
 obtain ⟨V,hV⟩:∃V,V=w.alloc (.cells #[.string ⟨#[]⟩, .int .i64 0, .int .i64 0, .slice none 0 0, .int .i64 0] 89):=⟨_,rfl⟩
 have gV:Gr w V:=by rw[hV];exact Gr.alloc (Gr.refl w) _
 have hz:w.heap.size<V.heap.size:=by rw[hV];simp
 have b0:V.cell? ⟨w.heap.size,0,none⟩=some (.string ⟨#[]⟩):=by rw[hV];go_simp
 have b1:V.cell? ⟨w.heap.size,1,none⟩=some (.int .i64 0):=by rw[hV];go_simp
 have b2:V.cell? ⟨w.heap.size,2,none⟩=some (.int .i64 0):=by rw[hV];go_simp
 have b3:V.cell? ⟨w.heap.size,3,none⟩=some (.slice none 0 0):=by rw[hV];go_simp
 have b4:V.cell? ⟨w.heap.size,4,none⟩=some (.int .i64 0):=by rw[hV];go_simp
 have f0:∀o,V.frozen? ⟨w.heap.size,o,none⟩=false:=fun o=>by rw[hV];go_simp
 obtain ⟨-,hlen,hM⟩:=opS_of ho
 have hF:=MayF.ofH hM
 obtain ⟨sp,hsp⟩:∃sp,sp=spanS m:=⟨_,rfl⟩
 have hsp4:(sp:Int)≤4294967295:=by have:=hF.last;rw[hsp];unfold spanS;omega
 have HSP:Hid (∀X b cc g d (W:World),FiM W X F P M R room n ag xf b cc m g d D→Calls Tryz.prog 68 #[.agg #[.int .i64 ag, .int .i64 xf, .slice (some ⟨b,0,none⟩) m.length cc]] W fun e w'=>e= .returned (.int .i64 (sp:Nat))∧Gr W w'):=Lib.hid (fun X b cc g d W hW=>by
  have:=span_any ag xf (some ⟨b,0,none⟩) cc (ints m) (by rw[ints_len];have:=hF.l8;omega) W hW.ri
  rw[hM,nats_ints,ints_len] at this
  rw[hsp]
  exact this)
 have HOP:=Lib.hid (open_any D hD V (h.gr gV))
 have HOD:=Lib.hid ho
 have HNW:Hid ((decide (1≤now)&&decide (now≤4294967295))=true):=Lib.hid (by rw[decide_eq_true hnow1,decide_eq_true hnow2];rfl)
 rw[←hsp] at h4
 have hw1:IntKind.i64.wrap (now-(sp:Int))=now-(sp:Int):=IntWalk.i64_in _ (by omega)
 have n1:¬unt<frm:=by omega
 have n2:¬now<frm:=by omega
 have n3:¬unt<0:=by omega
 have n4:¬unt<now-(sp:Int):=by omega
 obtain ⟨fr,hfr⟩:∃fr,fr=frS m now frm:=⟨_,rfl⟩
 obtain ⟨un,hun⟩:∃un,un=min unt now:=⟨_,rfl⟩
 obtain ⟨ol,hol⟩:∃ol:Int,ol=now-(sp:Int):=⟨_,rfl⟩
 have hfrv:max (max 0 frm) ol=fr:=by rw[hfr,hol];unfold frS;rw[←hsp]
 have HMX:(if (if 0<frm then frm else 0)<now-(sp:Int) then now-(sp:Int) else if 0<frm then frm else 0)=fr:=by
  rw[hfr];unfold frS;rw[←hsp]
  by_cases e1:0<frm
  ·
   simp only[e1,if_true]
   by_cases e2:frm<now-(sp:Int)
   ·
    rw[if_pos e2];omega
   ·
    rw[if_neg e2];omega
  ·
   simp only[e1,if_false]
   by_cases e2:0<now-(sp:Int)
   ·
    rw[if_pos e2];omega
   ·
    rw[if_neg e2];omega
 have hfr0:0≤fr:=by rw[hfr];unfold frS;omega
 have hfrn:fr≤now:=by rw[hfr];unfold frS;rw[←hsp];omega
 have hun0:0≤un:=by omega
 have hunn:un≤now:=by omega
 obtain ⟨dd,hdd⟩:∃dd:Int,now-fr=dd:=⟨_,rfl⟩
 have hwd:IntKind.i64.wrap (now-fr)=dd:=by rw[←hdd];exact IntWalk.i64_in _ (by omega)
 have hwdd:IntKind.i64.wrap dd=dd:=by rw[←hdd];exact IntWalk.i64_in _ (by omega)
 have HQ:=Lib.hid (And.intro hfr (And.intro hun hdd))
 have hm1:=hF.l1
 have hm8:(m.length:Int)≤8:=by have:=hF.l8;omega
 obtain ⟨ml,hml⟩:∃ml,ml=m.length-1:=⟨_,rfl⟩
 have hwl:IntKind.i64.wrap ((m.length:Int)-1)=(ml:Int):=by rw[show (m.length:Int)-1=(ml:Int) by omega];exact IntWalk.i64_in _ (by omega)
 have hmll:(ml:Int)<(m.length:Int):=by omega
 have HML:=Lib.hid (And.intro hml hm1)
 have HV:=Lib.hid hV
 have HGV:=Lib.hid gV
 have HF:=Lib.hid (And.intro hF (And.intro hsp hlen))
 have HFZ:=Lib.hid f0
 have HVZ:=Lib.hid (And.intro hz (And.intro b0 (And.intro b1 (And.intro b2 (And.intro b3 b4)))))
 clear hV gV h hM hF ho hD hlen hsp f0 hfr hun hol hfrv hml hm1 h1 h2 h3 h4
 go_enter Tryz.func36,Tryz.ntmps36
 go_upto_region 1 with (fail)
 rw[←HV.out]
 clear HV
 go_upto_region 10 with (first|(go_at_call 44;refine HOP.out.mono ?_;rintro e w1 ⟨g1,h1⟩;rw[HOD.out] at h1;obtain ⟨X,b,cc,g,d,rfl,hfi,hgw⟩:=h1;have H1:=Lib.hid (And.intro g1 (And.intro hfi hgw));have z0:=(Below.cell g1 (p:=⟨w.heap.size,0,none⟩) hz).trans b0;have z1:=(Below.cell g1 (p:=⟨w.heap.size,1,none⟩) hz).trans b1;have z2:=(Below.cell g1 (p:=⟨w.heap.size,2,none⟩) hz).trans b2;have z3:=(Below.cell g1 (p:=⟨w.heap.size,3,none⟩) hz).trans b3;have z4:=(Below.cell g1 (p:=⟨w.heap.size,4,none⟩) hz).trans b4;have x0:=hfi.x0;have x1:=hfi.x1;have x2:=hfi.x2;have hz1:=Nat.lt_of_lt_of_le hz g1.size;clear g1 hfi hgw)|(go_at_call 57;refine (isNow_any now _).mono ?_;rintro e w2 ⟨rfl,rfl⟩;rw[HNW.out])|(go_at_call 68;refine (HSP.out X b cc g d w1 H1.out.2.1).mono ?_;rintro e w3 ⟨rfl,g3⟩;have HG3:=Lib.hid g3;clear g3 x0 x1 x2 z0 z1 z2 z3 z4))
 try simp only[HMX]
 try rw[show min unt now=un from HQ.out.2.1.symm]
 have HF3:=Lib.hid (H1.out.2.1.gr HG3.out)
 have HAR:=Lib.hid (fun (q:Nat) (hq:q<m.length) W (gW:Gr w3 W)=>(HF3.out.gr gW).arc hq)
 clear n1 n2 n3 n4 HMX hw1 hz b0 b1 b2 b3 b4
 go_wp2
 go_loopw [15] (fun k wr=>∃q:Nat,q≤ml∧k= .int .i64 q∧Gr w3 wr∧Hid (∀j,j<q→¬dd≤(stpS m j:Int)*cntS m j)) (fun k _=>m.length-(intOf k).toNat)
 case atStart=>exact ⟨0,Nat.zero_le _,rfl,Gr.refl _,Lib.hid fun _ h=>absurd h (Nat.not_lt_zero _)⟩
 case round=>
  obtain ⟨q,hq,rfl,hgr,HB⟩:=hrel
  obtain ⟨pr,hpr⟩:∃pr:Int,(stpS m q:Int)*cntS m q=pr:=⟨_,rfl⟩
  obtain ⟨r,hr⟩:∃r:Bool,r=(decide (q<ml)&&decide (pr<dd)):=⟨_,rfl⟩
  have hqi:(q:Int)≤(ml:Int):=by omega
  have hqm:q<m.length:=by have:=HML.out;omega
  have hqmi:(q:Int)<(m.length:Int):=by omega
  have hst:=HF.out.1.s1 q hqm
  have hct:=HF.out.1.c1 q hqm
  have hpw:IntKind.i64.wrap ((stpS m q:Int)*cntS m q)=pr:=by rw[prod_small _ _ (by omega) (by omega) (by omega) (by omega)];exact hpr
  have hwq:IntKind.i64.wrap (q:Int)=(q:Int):=IntWalk.i64_in _ (by omega)
  have HGR:=Lib.hid hgr
  have HARQ:=Lib.hid (fun W (gW:Gr wr W)=>HAR.out q hqm W (hgr.trans gW))
  have HFR:=Lib.hid (HF3.out.gr hgr)
  have HPR:=Lib.hid (And.intro hpr (And.intro hr hqm))
  clear hgr hpr hst hct
  go_upto_region 11 with (fail)
  go_cut [100] from 67 to 102 (fun s wx=>s= .bool r∧Gr wr wx)
  case first=>
   by_cases hlt:q<ml
   ·
    have hlti:(q:Int)<(ml:Int):=by omega
    by_cases hp:pr<dd
    ·
     have hrr:r=true:=by rw[hr,decide_eq_true hlt,decide_eq_true hp];rfl
     subst hrr
     clear hr hq
     refine region_R (by kernel_rfl) (by kernel_rfl) ?_
     iterate 5 (refine rv ?_;simp only[Pu])
     refine r_val (v:=?qv17) (by kernel_rfl) (fun W hW=>?qh17) ?qr17
     case qh17=>have y2:=(HFR.out.gr hW).x2;go_light;go_simp;rfl
     simp only[Pu]
     iterate 8 (refine rv ?_;simp only[Pu])
     refine r_val (v:=?qv26) (by kernel_rfl) (fun W hW=>?qh26) ?qr26
     case qh26=>have y2:=(HFR.out.gr hW).x2;go_light;go_simp;rfl
     simp only[Pu]
     iterate 3 (refine rv ?_;simp only[Pu])
     refine r_val (v:=?qv30) (by kernel_rfl) (fun W hW=>?qh30) ?qr30
     case qh30=>obtain ⟨a0,a1⟩:=HARQ.out _ hW;go_light;go_simp;rfl
     simp only[Pu]
     iterate 4 (refine rv ?_;simp only[Pu])
     refine r_val (v:=?qv35) (by kernel_rfl) (fun W hW=>?qh35) ?qr35
     case qh35=>have y2:=(HFR.out.gr hW).x2;go_light;go_simp;rfl
     simp only[Pu]
     iterate 3 (refine rv ?_;simp only[Pu])
     refine r_val (v:=?qv39) (by kernel_rfl) (fun W hW=>?qh39) ?qr39
     case qh39=>obtain ⟨a0,a1⟩:=HARQ.out _ hW;go_light;go_simp;rfl
     simp only[Pu]
     iterate 6 (refine rv ?_;simp only[Pu])
     refine r_nil ?_
     intro w5 g5
     go_wp2_with fail
     go_meet
     exact ⟨by first|rfl|trivial|simp[hp],g5⟩
    ·
     have hrr:r=false:=by rw[hr,decide_eq_false hp,Bool.and_false]
     subst hrr
     clear hr hq
     refine region_R (by kernel_rfl) (by kernel_rfl) ?_
     iterate 5 (refine rv ?_;simp only[Pu])
     refine r_val (v:=?qv51) (by kernel_rfl) (fun W hW=>?qh51) ?qr51
     case qh51=>have y2:=(HFR.out.gr hW).x2;go_light;go_simp;rfl
     simp only[Pu]
     iterate 8 (refine rv ?_;simp only[Pu])
     refine r_val (v:=?qv60) (by kernel_rfl) (fun W hW=>?qh60) ?qr60
     case qh60=>have y2:=(HFR.out.gr hW).x2;go_light;go_simp;rfl
     simp only[Pu]
     iterate 3 (refine rv ?_;simp only[Pu])
     refine r_val (v:=?qv64) (by kernel_rfl) (fun W hW=>?qh64) ?qr64
     case qh64=>obtain ⟨a0,a1⟩:=HARQ.out _ hW;go_light;go_simp;rfl
     simp only[Pu]
     iterate 4 (refine rv ?_;simp only[Pu])
     refine r_val (v:=?qv69) (by kernel_rfl) (fun W hW=>?qh69) ?qr69
     case qh69=>have y2:=(HFR.out.gr hW).x2;go_light;go_simp;rfl
     simp only[Pu]
     iterate 3 (refine rv ?_;simp only[Pu])
     refine r_val (v:=?qv73) (by kernel_rfl) (fun W hW=>?qh73) ?qr73
     case qh73=>obtain ⟨a0,a1⟩:=HARQ.out _ hW;go_light;go_simp;rfl
     simp only[Pu]
     iterate 6 (refine rv ?_;simp only[Pu])
     refine r_nil ?_
     intro w5 g5
     go_wp2_with fail
     go_meet
     exact ⟨by first|rfl|trivial|simp[hp],g5⟩
   ·
    have hlti:¬(q:Int)<(ml:Int):=by omega
    have hrr:r=false:=by rw[hr,decide_eq_false hlt,Bool.false_and]
    subst hrr
    clear hr hq
    refine region_R (by kernel_rfl) (by kernel_rfl) ?_
    iterate 5 (refine rv ?_;simp only[Pu])
    refine r_val (v:=?qv85) (by kernel_rfl) (fun W hW=>?qh85) ?qr85
    case qh85=>have y2:=(HFR.out.gr hW).x2;go_light;go_simp;rfl
    simp only[Pu]
    iterate 4 (refine rv ?_;simp only[Pu])
    iterate 23 (refine rs ?_;simp only[Pu])
    refine rv ?_;simp only[Pu]
    refine r_nil ?_
    intro w5 g5
    go_wp2_with fail
    go_meet
    exact ⟨by first|rfl|trivial,g5⟩
  case rest=>
   obtain ⟨rfl,hgx⟩:=hcut
   have HGX:=Lib.hid (HGR.out.trans hgx)
   clear hgx
   cases r with
   | true=>
    have HN:Hid (q<ml∧∀j,j<q+1→¬dd≤(stpS m j:Int)*cntS m j):=Lib.hid (by
     have h:=hr.symm
     rw[Bool.and_eq_true,decide_eq_true_eq,decide_eq_true_eq] at h
     refine ⟨h.1,fun j hj=>?_⟩
     rcases Nat.lt_or_ge j q with e|e
     ·
      exact HB.out j e
     ·
      have e2:j=q:=by omega
      rw[e2,HPR.out.1]
      omega)
    clear hr
    go_wp2
    go_roundw
    case rel=>exact ⟨q+1,by have:=HN.out.1;omega,by go_num,HGX.out,Lib.hid HN.out.2⟩
    case measure=>simp[intOf];omega
   | false=>
    have hix:whichS m dd=q:=by
     have h:=hr.symm
     rw[Bool.and_eq_false_iff,decide_eq_false_iff_not,decide_eq_false_iff_not] at h
     by_cases hlt:q<ml
     ·
      exact which_at (by rw[←HML.out.1];exact hlt) (by rw[HPR.out.1];have:=h.resolve_left (fun e=>e hlt);omega) HB.out
     ·
      have hqe:q=m.length-1:=by rw[←HML.out.1];omega
      rw[hqe]
      exact which_last HML.out.2 (fun j hj=>HB.out j (by omega))
    clear hr hpw
    obtain ⟨S,hS⟩:∃S,S=stpS m q:=⟨_,rfl⟩
    have hs1:=HF.out.1.s1 q hqm
    obtain ⟨st,hst⟩:∃st,st=startS m q fr:=⟨_,rfl⟩
    obtain ⟨en,hen⟩:∃en,en=endW m q fr un:=⟨_,rfl⟩
    obtain ⟨N,hN⟩:∃N,N=manyS m q fr un:=⟨_,rfl⟩
    obtain ⟨hm1e,hN1⟩:=many_eq (m:=m) (i:=q) hs1.1 hfr0 hun0
    have hal:=fun W=>align_any (fr+S) S (by omega) W
    have hal2:=fun W=>align_any (un+S) S (by omega) W
    obtain ⟨e1,he1⟩:∃e1,e1=alignS (un+S) S:=⟨_,rfl⟩
    have hst2:alignS (fr+S) S=st:=by rw[hst,hS];rfl
    have hen2:en=max e1 (st+S):=by rw[hen,he1,hst,hS];rfl
    have hsf:=align_facts (t:=fr+S) (step:=(S:Int)) (by omega) (by omega)
    have hef:=align_facts (t:=un+S) (step:=(S:Int)) (by omega) (by omega)
    rw[hst2] at hal hsf
    rw[←he1] at hal2 hef
    rw[←hst,←hN,←hS,←hen] at hm1e
    rw[←hN] at hN1
    have hal3:∀W,Calls Tryz.prog 74 #[.int .i64 (un+S), .int .i64 S] W fun e w'=>e= .returned (.int .i64 e1)∧Gr W w':=fun W=>(hal2 W).mono fun e w' h=>⟨h.1,by rw[←h.2];exact Gr.refl _⟩
    have HAL:=Lib.hid hal
    have HAL2:=Lib.hid hal3
    have hSi:(S:Int)≤16777216:=by omega
    have hS1:1≤(S:Int):=by omega
    have hwa:IntKind.i64.wrap (fr+(S:Int))=fr+(S:Int):=IntWalk.i64_in _ (by omega)
    have hwb:IntKind.i64.wrap (un+(S:Int))=un+(S:Int):=IntWalk.i64_in _ (by omega)
    have hwc:IntKind.i64.wrap (st+(S:Int))=st+(S:Int):=IntWalk.i64_in _ (by omega)
    have hwS:IntKind.i64.wrap (S:Int)=(S:Int):=IntWalk.i64_in _ (by omega)
    have hwu:IntKind.i64.wrap un=un:=IntWalk.i64_in _ (by omega)
    have HMX2:(if e1<st+(S:Int) then st+(S:Int) else e1)=en:=by
     rw[hen2]
     by_cases e:e1<st+(S:Int)
     ·
      rw[if_pos e];omega
     ·
      rw[if_neg e];omega
    have hen4:en≤4400000000:=by omega
    have hst0:0≤st:=hsf.1
    have hNN:(N:Int)≤(N:Int)*S:=by
     have:=Int.mul_le_mul_of_nonneg_left hS1 (show (0:Int)≤(N:Int) by omega)
     rw[Int.mul_one] at this
     exact this
    have hNi:(N:Int)≤4400000000:=by omega
    have HST:=Lib.hid (And.intro hst (And.intro hS (And.intro hN hix)))
    have HSM:=Lib.hid hm1e
    have HEN:=Lib.hid hen2.symm
    have HHAS:=Lib.hid (fun W (gW:Gr w3 W) (x:Int) (hx0:0≤x) (hx:x≤4611686018427387904)=>whas_any q hqm x hx0 hx W (HF3.out.gr gW))
    obtain ⟨ar0,ar1⟩:=HAR.out q hqm wc HGX.out
    rw[←hS] at ar0
    have yx2:=(HF3.out.gr HGX.out).x2
    have VL:∃VL,VL=valsS m D q st N:=⟨_,rfl⟩
    obtain ⟨VL,hVL⟩:=VL
    have hVl:VL.length=N:=by rw[hVL];unfold valsS;rw[List.length_map,List.length_range]
    have hVq:∀j (hj:j<VL.length),VL[j]=hasV m D q (st+j*S):=fun j hj=>by
     subst hVL
     simp only[valsS,List.getElem_map,List.getElem_range]
     rw[hS]
    have HVL:=Lib.hid (And.intro hVL (And.intro hVl hVq))
    have hNZ:(N:Int)*16≤140737488355328:=by omega
    clear hs1 hst hS hN hix hal hal2 hal3 hst2 hen hen2 hsf hef he1 hm1e hVL hVl hVq hqi hNN ar1
    go_upto_region 15 with (go_at_call 74;refine (HAL.out _).mono ?_;rintro e w6 ⟨rfl,rfl⟩)
    obtain ⟨W7,hW7⟩:∃W7,W7=wc.alloc (.cells #[.string nmA, .int .i64 st, .int .i64 S, .slice none 0 0, .int .i64 0] 89):=⟨_,rfl⟩
    have g7:Gr wc W7:=by rw[hW7];exact Gr.alloc (Gr.refl wc) _
    have hz7:wc.heap.size<W7.heap.size:=by rw[hW7];simp
    have hsr:SrB W7 wc.heap.size st S (.slice none 0 0):=⟨by rw[hW7];go_simp,by rw[hW7];go_simp,by rw[hW7];go_simp,by rw[hW7];go_simp,by rw[hW7];go_simp,by rw[hW7];go_simp,hz7⟩
    have d1:=hsr.c1
    have HG7:=Lib.hid g7
    have HSR:=Lib.hid hsr
    rw[←hW7]
    clear hW7 g7 hsr ar0 yx2
    refine region_Q (by kernel_rfl) (by kernel_rfl) ?_
    iterate 4 (refine qv ?_;simp only[Pu])
    refine q_call (v:= .int .i64 e1) (f:=?qf5) (args:=?qa5) (by rfl) (fun W hW=>?qh5) (fun W hW=>?qc5) ?qr5
    case qh5=>go_simp;constructor<;>rfl
    case qc5=>exact (HAL2.out W).mono (fun e w' h=>⟨h.1,Gr.trans hW h.2⟩)
    simp only[Pu]
    refine qv ?_;simp only[Pu]
    refine q_val (v:=?qv7) (by rfl) (fun W hW=>?qh7) ?qr7
    case qh7=>have y1:=(Below.cell hW (p:=⟨wc.heap.size,1,none⟩) hz7).trans d1;go_simp;rfl
    simp only[Pu]
    iterate 4 (refine qv ?_;simp only[Pu])
    refine wpQuiet_nil ?_
    intro W8 g8
    try simp only[HMX2]
    have HG8:=Lib.hid (HG7.out.trans g8)
    have HSR8:=Lib.hid (HSR.out.kp (Kp.of_gr (fun _=>False) g8) (fun e=>e))
    have d1:=HSR8.out.c1
    have hz8:=HSR8.out.lt
    have hzw:w.heap.size<wc.heap.size:=Nat.lt_of_lt_of_le hz1 (HG3.out.trans HGX.out).size
    obtain ⟨sb,hsb⟩:∃sb,sb=wc.heap.size:=⟨_,rfl⟩
    rw[←hsb] at HSR8 d1 hz8 hzw ⊢
    have HSB:=Lib.hid hsb
    have HSEP:Hid (w3.heap.size≤sb):=Lib.hid (by rw[hsb];exact HGX.out.size)
    clear g8 HAL HAL2 HSR hsb hz7 HMX2
    go_upto_region 16 with (fail)
    try rw[HEN.out]
    have HGW8:=Lib.hid (HGX.out.trans HG8.out)
    clear d1
    have d1:=HSR8.out.c1
    go_wp2
    go_loopw [19] (fun x wr=>∃(j:Nat) (vv:Value),j≤N∧x= .int .i64 (st+(j:Int)*S)∧Kp (fun k=>k=sb) W8 wr∧SrB wr sb st S vv∧wr.ownsRow W8.heap.size 107 2 vv j (vcells (VL.take j))) (fun x _=>(en-intOf x).toNat)
    case atStart=>exact ⟨0, .slice none 0 0,Nat.zero_le _,by go_num,Kp.refl _ _,HSR8.out,World.ownsRow_nil _ _ _ _⟩
    case round=>
     obtain ⟨j,vv,hj,rfl,hkp,hsr,hown⟩:=hrel
     obtain ⟨y,hy⟩:∃y:Int,y=st+(j:Int)*S:=⟨_,rfl⟩
     have hjS:(j:Int)*S≤(N:Int)*S:=Int.mul_le_mul_of_nonneg_right (by omega) (by omega)
     have hj0:0≤(j:Int)*S:=Int.mul_nonneg (by omega) (by omega)
     have hsm:=HSM.out
     rw[←hy]
     have hy0:0≤y:=by omega
     have hye:y≤en:=by omega
     by_cases hlt:j<N
     ·
      have hj1:((j:Int)+1)*S≤(N:Int)*S:=Int.mul_le_mul_of_nonneg_right (by omega) (by omega)
      rw[Int.add_mul,Int.one_mul] at hj1
      have hyl:y<en:=by omega
      have hyS:y+S≤en:=by omega
      have hwy:IntKind.i64.wrap (y+(S:Int))=y+(S:Int):=IntWalk.i64_in _ (by omega)
      have hyn:y+(S:Int)=st+((j+1:Nat):Int)*S:=by rw[hy];simp only[Int.natCast_add,Int.add_mul];omega
      have hjl:j<VL.length:=by rw[HVL.out.2.1];exact hlt
      obtain ⟨u,hu⟩:∃u,u=VL[j]:=⟨_,rfl⟩
      have huh:hasV m D q y=u:=by rw[hu,HVL.out.2.2 j hjl,hy]
      have HT:=Lib.hid (show VL.take (j+1)=VL.take j++[u] by rw[List.take_succ_eq_append_getElem hjl,hu])
      have HYN:=Lib.hid hyn
      have HJ:=Lib.hid (And.intro hlt (And.intro hyS hyl))
      have hz8r:=hkp.size
      have hnT:¬vv.ownBlock=some sb:=fun e=>by have:=(hown.lt sb e).1;omega
      have SR:=Lib.hid (And.intro hsr hnT)
      have HKP:=Lib.hid hkp
      have HOW:=Lib.hid hown
      have HH:Hid (∀W,Gr wr W→Calls Tryz.prog 75 #[.pointer (some ⟨X,0,none⟩), .int .i64 q, .int .i64 y] W (RetVl u W)):=Lib.hid fun W gW=>by rw[←huh];exact whas_any q HPR.out.2.2 y hy0 (by omega) W ((HF3.out.gr (gr_over HGW8.out hkp HSEP.out)).gr gW)
      have hji:(j:Int)+1≤4400000000:=by omega
      have HYY:=Lib.hid hy
      clear hjS hj0 hsm hj1 hyn huh hu hkp hsr hown hj hnT hy
      go_upto_region 19 with (fail)
      refine wp_region_Z 9 (Kp (fun k=>vv.ownBlock=some k) wr) (by kernel_rfl) ?_
      have gr0:Gr wr wr.drew:=Gr.drew (Gr.refl _)
      obtain ⟨W9,hW9⟩:∃W9,W9=wr.drew:=⟨_,rfl⟩
      rw[←hW9] at gr0 ⊢
      clear hW9
      have hS0:Kp (fun k=>vv.ownBlock=some k) wr W9:=Kp.of_gr _ gr0
      refine zu 0 rfl hS0 (fun W hS=>by go_simp;rfl) ?_
      refine zu 1 rfl hS0 (fun W hS=>by have y0:=SrB.c3K SR.out hS;go_simp;rfl) ?_
      refine zu 2 rfl hS0 (fun W hS=>by go_simp;rfl) ?_
      refine zu 3 rfl hS0 (fun W hS=>by go_simp;rfl) ?_
      refine zu 4 rfl hS0 (fun W hS=>by go_simp;rfl) ?_
      have HS0:=Lib.hid hS0
      refine wpAnyZ_ready (rs:=[5]) (by kernel_rfl) (by simp) ?_
      refine AllReadyZ.cons (i:=5) rfl (by kernel_rfl) ?zx1 AllReadyZ.nil
      intro K hK
      simp only[List.getElem_toArray,List.getElem_cons_succ,List.getElem_cons_zero]
      go_simp
      refine (HH.out _ gr0).mono ?_
      rintro e V5 ⟨rfl,k5⟩
      have gr5:=gr0.trans k5
      have hown5:=own_grU HOW.out gr5
      clear k5 hS0
      go_wp2_with fail
      refine hK.out _ _ (fun hnz=>?zs2) (fun _=>?zr3)
      case zs2=>exact Kp.of_gr _ gr5
      clear hK K
      try (simp only[Pu,List.getElem_toArray,List.getElem_cons_succ,List.getElem_cons_zero])
      refine wpAnyZ_ready (rs:=[6]) (by kernel_rfl) (by simp) ?_
      refine AllReadyZ.cons (i:=6) rfl (by kernel_rfl) ?zx4 AllReadyZ.nil
      intro K hK
      simp only[List.getElem_toArray,List.getElem_cons_succ,List.getElem_cons_zero]
      go_simp
      obtain ⟨V6,hV6⟩:∃V6,V6=V5.alloc (.cells #[.bool u.ok, .int .i64 u.n] 107):=⟨_,rfl⟩
      have g6:Gr V5 V6:=by rw[hV6];exact Gr.alloc (Gr.refl _) _
      have hrx:Rv V6 (some ⟨V5.heap.size,0,none⟩) [u]:=by rw[hV6];exact Rv.new rfl 107 [u]
      rw[←hV6]
      clear hV6
      have gr6:=gr5.trans g6
      have hown6:=own_grU hown5 g6
      have hz6:=gr6.size
      clear hown5 g6
      refine hK.out _ _ (fun hnz=>?zs5) (fun _=>?zr6)
      case zs5=>exact Kp.of_gr _ gr6
      clear hK K
      try (simp only[Pu,List.getElem_toArray,List.getElem_cons_succ,List.getElem_cons_zero])
      refine wpAnyZ_ready (rs:=[7]) (by kernel_rfl) (by simp) ?_
      refine AllReadyZ.cons (i:=7) rfl (by kernel_rfl) ?zx7 AllReadyZ.nil
      intro K hK
      simp only[List.getElem_toArray,List.getElem_cons_succ,List.getElem_cons_zero]
      refine wp_append_rd0 (.tmp 139) (.tmp 144) 87 rfl W8.heap.size 107 v0 _ 2 16 Tryz.underlying87 hv0 vz0 vz1 vz2 rfl (by decide) vv j (vcells (VL.take j)) rfl hown6 (some ⟨V5.heap.size,0,none⟩) 1 1 (vcells [u]) rfl hrx (vcells_one _) (by unfold maxLen;omega) (by omega) (by omega) ?_
      intro v' w7 hown7 hgr7 hat7
      have kp7:Kp (fun k=>vv.ownBlock=some k) wr w7:=(Kp.of_gr (fun k=>vv.ownBlock=some k) gr6).grown hgr7 (fun k e=> .inl e)
      have sr7:=SR.out.1.kp kp7 SR.out.2
      rw[←vcells_append,←HT.out] at hown7
      obtain ⟨A7,c7,hv7⟩:=own_form hown7
      subst hv7
      clear hown6 hgr7 hat7 hrx gr6 gr5 gr0
      refine hK.out _ _ (fun hnz=>?zs8) (fun _=>?zr9)
      case zs8=>exact kp7
      clear hK K
      try (simp only[Pu,List.getElem_toArray,List.getElem_cons_succ,List.getElem_cons_zero])
      refine wpAnyZ_ready (rs:=[8]) (by kernel_rfl) (by simp) ?_
      refine AllReadyZ.cons (i:=8) rfl (by kernel_rfl) ?zx10 AllReadyZ.nil
      intro K hK
      simp only[List.getElem_toArray,List.getElem_cons_succ,List.getElem_cons_zero]
      go_wp2_with fail
      refine hK.out _ _ (fun hnz=>?zs11) (fun _=>?zr12)
      case zs11=>exact kp7
      clear hK K
      try (simp only[Pu,List.getElem_toArray,List.getElem_cons_succ,List.getElem_cons_zero])
      have y3:=sr7.c3
      have yf:=sr7.f3
      have yl:=sr7.lt
      refine wpAnyZ_ready (rs:=[9]) (by kernel_rfl) (by simp) ?_
      refine AllReadyZ.cons (i:=9) rfl (by kernel_rfl) ?zx13 AllReadyZ.nil
      intro K hK
      simp only[List.getElem_toArray,List.getElem_cons_succ,List.getElem_cons_zero]
      go_simp
      refine hK.out _ _ (fun hnz=>?zs14) (fun _=>?zr15)
      case zs14=>exact absurd rfl hnz
      clear hK K
      try (simp only[Pu,List.getElem_toArray,List.getElem_cons_succ,List.getElem_cons_zero])
      refine wpAnyZ_done (by kernel_rfl) ?_ _
      have HF7:Hid (Kp (fun k=>k=sb) W8 (w7.setCell ⟨sb,3,none⟩ (.slice A7 (j+1) c7))∧SrB (w7.setCell ⟨sb,3,none⟩ (.slice A7 (j+1) c7)) sb st S (.slice A7 (j+1) c7)∧(w7.setCell ⟨sb,3,none⟩ (.slice A7 (j+1) c7)).ownsRow W8.heap.size 107 2 (.slice A7 (j+1) c7) (j+1) (vcells (VL.take (j+1)))):=Lib.hid ⟨(HKP.out.trans kp7 (fun i hi e=>by have:=(HOW.out.lt i e).1;omega)).set (p:=⟨sb,3,none⟩) (.inl (show sb=sb from rfl)) _,sr7.put _,own_setU hown7 (show sb<W8.heap.size from hz8) _⟩
      clear y3 yf yl kp7 sr7 hown7
      go_wp2
      go_roundw
      case rel=>exact ⟨j+1,_,HJ.out.1,by rw[HYN.out],HF7.out⟩
      case measure=>have:=HJ.out;simp[intOf];omega
     ·
      have hjN:j=N:=by omega
      subst hjN
      obtain ⟨A7,c7,hv7⟩:=own_form hown
      subst hv7
      have hrv:Rv wr A7 VL:=by
       have:=Rd.own hown
       rw[←HVL.out.2.1,List.take_length] at this
       exact this
      have hyN:¬y<en:=by omega
      have gwr:=gr_over HGW8.out hkp HSEP.out
      have hw3:w.heap.size<w3.heap.size:=Nat.lt_of_lt_of_le hz1 HG3.out.size
      have HZ:Hid (∀o,wr.cell? ⟨w.heap.size,o,none⟩=V.cell? ⟨w.heap.size,o,none⟩∧wr.frozen? ⟨w.heap.size,o,none⟩=false):=Lib.hid (fun o=>⟨(Below.cell ((H1.out.1.trans HG3.out).trans gwr) (p:=⟨w.heap.size,o,none⟩) HVZ.out.1).trans rfl,(Below.frozen ((H1.out.1.trans HG3.out).trans gwr) (p:=⟨w.heap.size,o,none⟩) HVZ.out.1).trans (HFZ.out o)⟩)
      have z0:=(HZ.out 0).1.trans HVZ.out.2.1
      have z1:=(HZ.out 1).1.trans HVZ.out.2.2.1
      have z2:=(HZ.out 2).1.trans HVZ.out.2.2.2.1
      have z3:=(HZ.out 3).1.trans HVZ.out.2.2.2.2.1
      have z4:=(HZ.out 4).1.trans HVZ.out.2.2.2.2.2
      have k0:=(HZ.out 0).2
      have k1:=(HZ.out 1).2
      have k2:=(HZ.out 2).2
      have k3:=(HZ.out 3).2
      have k4:=(HZ.out 4).2
      have d0:=hsr.c0
      have d2:=hsr.c2
      have d3:=hsr.c3
      have d4:=hsr.c4
      have d1':=hsr.c1
      have HRV:=Lib.hid (And.intro hrv (And.intro ((HGV.out.trans (H1.out.1.trans HG3.out)).trans gwr) (hown.lt)))
      have hzwr:=hkp.size
      have hwsb:w.heap.size<wr.heap.size:=by have:=hsr.lt;omega
      clear hrv gwr hown hkp hsr hj0 hjS hsm d1 hy
      go_wp2
      refine bodyPost_ret (v:= .tuple #[.agg #[.string nmA, .int .i64 st, .int .i64 S, .slice A7 j c7, .int .i64 0], .int .i64 0]) (by simp[results,Tryz.results36,go_sem, *]) rfl ?_
      have hq2:whichS m (now-frS m now frm)=q:=by rw[←HQ.out.1,HQ.out.2.2,HST.out.2.2.2]
      have hfe:fetV m D now frm unt=VL:=by unfold fetV;rw[hq2,←HQ.out.1,←HQ.out.2.1,←HST.out.1,←HST.out.2.2.1,←HVL.out.1]
      have K:Kp (fun k=>k=w.heap.size) wr (((((wr.setCell ⟨w.heap.size,0,none⟩ (.string nmA)).setCell ⟨w.heap.size,1,none⟩ (.int .i64 st)).setCell ⟨w.heap.size,2,none⟩ (.int .i64 S)).setCell ⟨w.heap.size,3,none⟩ (.slice A7 j c7)).setCell ⟨w.heap.size,4,none⟩ (.int .i64 0)):=(((((Kp.refl (fun k=>k=w.heap.size) wr).set (.inl rfl) _).set (.inl rfl) _).set (.inl rfl) _).set (.inl rfl) _).set (.inl rfl) _
      refine ⟨((((HRV.out.2.1.setCell (Nat.le_refl _) _).setCell (Nat.le_refl _) _).setCell (Nat.le_refl _) _).setCell (Nat.le_refl _) _).setCell (Nat.le_refl _) _,A7,c7,?_,?_⟩
      ·
       rw[hfe,hq2,←HQ.out.1,←HST.out.1,←HST.out.2.1,HVL.out.2.1]
      ·
       rw[hfe]
       exact K.rd HRV.out.1 (fun _ ad e=>by
        have:=(HRV.out.2.2 ad.block (by rw[e];rfl)).1
        have:=HGW8.out.size
        omega)
def pcells (l:List (Int×Int)):List Value:=l.flatMap fun a=>[.int .i64 a.1, .int .i64 a.2]
theorem pcells_cons (a:Int×Int) (l:List (Int×Int)):pcells (a::l)= .int .i64 a.1 :: .int .i64 a.2::pcells l:=rfl
theorem pcells_append (l m:List (Int×Int)):pcells (l++m)=pcells l++pcells m:=by simp[pcells]
theorem pcells_length (l:List (Int×Int)):(pcells l).length=l.length*2:=by
 induction l with
 | nil=>rfl
 | cons v l ih=>rw[pcells_cons];simp only[List.length_cons,ih];omega
theorem pcells_one (l:List (Int×Int)):∀u∈pcells l,u.oneCell'=true:=by
 intro u hu
 simp only[pcells,List.mem_flatMap] at hu
 obtain ⟨v,_,hv⟩:=hu
 simp at hv
 rcases hv with rfl|rfl<;>rfl
theorem pcells_at (l:List (Int×Int)):∀(k:Nat) (h:k<l.length),(pcells l)[k*2]?=some (.int .i64 l[k].1)∧(pcells l)[k*2+1]?=some (.int .i64 l[k].2):=by
 induction l with
 | nil=>intro k h;simp at h
 | cons v l ih=>
  intro k h
  match k with
  | 0=>exact ⟨rfl,rfl⟩
  | k+1=>
   obtain ⟨i1,i2⟩:=ih k (by simpa using h)
   rw[pcells_cons]
   refine ⟨?_,?_⟩
   ·
    rw[show (k+1)*2=k*2+1+1 by omega];simpa using i1
   ·
    rw[show (k+1)*2+1=k*2+1+1+1 by omega];simpa using i2
theorem Ri.ownP {w:World} {base:Nat} {e:TypeId} {n c:Nat} {A:Option Addr} {l:List (Int×Int)} (h:w.ownsRow base e 2 (.slice A n c) n (pcells l)):Ri w A l:=fun h0=>by
 have hn:n=l.length:=by have:=h.1;rw[pcells_length] at this;omega
 obtain ⟨g,e, -,hg,hc⟩:=own_blockU h (by omega)
 refine ⟨⟨g,0,none⟩,e,hg,fun k hk=>?_⟩
 rw[add_own]
 exact ⟨hc _ _ (pcells_at l k hk).1,hc _ _ (pcells_at l k hk).2⟩
theorem info_point:(Tryz.prog.info? 54).map (fun i=>(i.zero,i.size,i.bytes))=some (some (.agg #[.int .i64 0, .int .i64 0]),2,16):=by kernel_rfl
def ringS (m:Arcs) (D:List UInt8) (i:Nat):List (Int×Int):=(List.range (cntS m i)).map fun (k:Nat)=>(decT (slotS D (offS m i+12*k)),decN (slotS D (offS m i+12*k)))
theorem ring_in {m:Arcs} (h:MayF m) {i:Nat} (hi:i<m.length) {k:Nat} (hk:k<cntS m i):offS m i+12*k+12≤sizeS m:=by
 have h2:=offS_succ hi
 have h3:=offS_le (m:=m) (i:=i+1) (by omega)
 rw[cntS_at hi] at hk
 omega
def RetRg (m:Arcs) (D:List UInt8) (i:Nat) (w:World) (e:Ending) (w':World):Prop:=
 Gr w w'∧∃A c,e= .returned (.tuple #[.slice A (ringS m D i).length c, .int .i64 0])∧Ri w' A (ringS m D i)
def RetRh (m:Arcs) (D:List UInt8) (i:Nat) (w:World) (e:Ending) (w':World):Prop:=
 Gr w w'∧∃A c,e= .returned (.tuple #[.slice A (ringS m D i).length c, .int .i64 0])∧Ri w' A (ringS m D i)∧∀ad,A=some ad→w.heap.size≤ad.block
theorem own_blkR {w:World} {base:Nat} {e:TypeId} {size n c:Nat} {ad:Addr} {xs:List Value} (h:w.ownsRow base e size (.slice (some ad) n c) n xs):(Value.slice (some ad) n c).ownBlock=some ad.block:=by
 obtain ⟨h1,⟨hv, -⟩|⟨g',cap,cur,hv, -⟩⟩:=h
 ·
  cases hv
 ·
  injection hv with hv _ _
  injection hv with hv
  subst hv
  rfl
theorem xring_row {Y:Nat→Prop} {X:Nat} {R:Option Nat} {room:Int} {n:Nat} {D:List UInt8} {ag xf:Nat} {m:Arcs} (hD:(D.length:Int)≤1073741824) (ho:opS D=some (ag,xf,m)) (i:Nat) (hi:i<m.length) (w:World) (h:RsM Y w X R room n (some D)):Calls Tryz.prog 39 #[.pointer (some ⟨X,0,none⟩), .string nmA, .int .i64 i] w (RetRh m D i w):=by
 obtain ⟨v0,hv0,vz0,vz1,vz2⟩:=info_parts info_point
 obtain ⟨-,hlen,hM⟩:=opS_of ho
 have hF:=MayF.ofH hM
 have HIN:=Lib.hid (xinfo_any D hD w h)
 have HOD:=Lib.hid ho
 have hm8:(m.length:Int)≤8:=by have:=hF.l8;omega
 have hii:¬(i:Int)<0:=by omega
 have hil:¬(m.length:Int)≤(i:Int):=by omega
 have hil2:(i:Int)<(m.length:Int):=by omega
 have hil0:¬m.length≤i:=by omega
 have hil4:decide (m.length≤i)=false:=decide_eq_false hil0
 obtain ⟨L,hL⟩:∃L,L=ringS m D i:=⟨_,rfl⟩
 obtain ⟨C,hC⟩:∃C,C=cntS m i:=⟨_,rfl⟩
 have hLl:L.length=C:=by rw[hL];unfold ringS;rw[List.length_map,List.length_range,hC]
 have hLq:∀q (hq:q<L.length),L[q]=(decT (slotS D (offS m i+12*q)),decN (slotS D (offS m i+12*q))):=fun q hq=>by
  subst hL
  simp only[ringS,List.getElem_map,List.getElem_range]
 have HL:=Lib.hid (And.intro hLl (And.intro hLq hL))
 have hct:=hF.c1 i hi
 rw[←hC] at hct
 have hCi:(C:Int)≤16777216:=by omega
 have hsz:=hF.sz
 obtain ⟨of,hof⟩:∃of,of=offS m i:=⟨_,rfl⟩
 have HIN2:Hid (∀k,k<C→of+12*k+12≤D.length):=Lib.hid fun k hk=>by rw[hof,←hlen];exact ring_in hF hi (by rw[←hC];exact hk)
 have hDl:(D.length:Int)≤1048576:=by omega
 have HF:=Lib.hid (And.intro hF (And.intro hM (And.intro hC (And.intro hof hi))))
 have HD:=Lib.hid (And.intro hD h)
 have hwi:IntKind.i64.wrap (i:Int)=(i:Int):=IntWalk.i64_in _ (by omega)
 unfold RetRh
 rw[←hL]
 clear h hD ho hlen hM hF hL hLl hLq hct hsz hof hC hi
 go_enter Tryz.func39,Tryz.ntmps39
 go_upto_region 4 with (go_at_call 16;refine HIN.out.mono ?_;rintro e w1 ⟨g1,h1⟩;rw[HOD.out] at h1;obtain ⟨A1,c1,rfl,hc1,hr1,hf1⟩:=h1;have H1:=Lib.hid (And.intro hc1 (And.intro hr1 (And.intro hf1 g1)));clear hc1 hr1 hf1 g1)
 obtain ⟨V1,hV1⟩:∃V1,V1=w1.alloc (.cells #[.int .i64 ag, .int .i64 xf, .slice A1 m.length c1] 24):=⟨_,rfl⟩
 have k1:Gr w1 V1:=by rw[hV1];exact Gr.alloc (Gr.refl w1) _
 have hz1:w1.heap.size<V1.heap.size:=by rw[hV1];simp
 have y0:V1.cell? ⟨w1.heap.size,0,none⟩=some (.int .i64 ag):=by rw[hV1];go_simp
 have y1:V1.cell? ⟨w1.heap.size,1,none⟩=some (.int .i64 xf):=by rw[hV1];go_simp
 have y2:V1.cell? ⟨w1.heap.size,2,none⟩=some (.slice A1 m.length c1):=by rw[hV1];go_simp
 have HK1:=Lib.hid k1
 have HGA:=Lib.hid (H1.out.2.2.2.trans k1)
 rw[←hV1]
 clear hV1 k1
 obtain ⟨ad,rfl,hb,hc⟩:=H1.out.2.1 (by rw[ints_len];have:=HF.out.1.l1;omega)
 have HAR:Hid (∀W,Gr V1 W→W.cell? ⟨w1.heap.size,0,none⟩=some (.int .i64 ag)∧W.cell? ⟨w1.heap.size,1,none⟩=some (.int .i64 xf)∧W.cell? ⟨w1.heap.size,2,none⟩=some (.slice (some ad) m.length c1)∧W.cell? ⟨(ad.add (i*2)).block,(ad.add (i*2)).off+1,none⟩=some (.int .i64 (C:Nat))):=Lib.hid fun W gW=>by
  have hbk:∀z,(ad.add z).block<w1.heap.size:=fun z=>by rw[adB];exact hb
  obtain ⟨p0,p1⟩:=hc i (by rw[ints_len];exact HF.out.2.2.2.2)
  rw[ints_at m i HF.out.2.2.2.2] at p1
  simp only at p1
  rw[←cntS_at HF.out.2.2.2.2,←HF.out.2.2.1] at p1
  exact ⟨(Below.cell gW (p:=⟨w1.heap.size,0,none⟩) hz1).trans y0,(Below.cell gW (p:=⟨w1.heap.size,1,none⟩) hz1).trans y1,(Below.cell gW (p:=⟨w1.heap.size,2,none⟩) hz1).trans y2,(Below.cell (HK1.out.trans gW) (p:=⟨(ad.add (i*2)).block,(ad.add (i*2)).off+1,none⟩) (hbk _)).trans p1⟩
 have HOF:Hid (∀W,Gr V1 W→Calls Tryz.prog 59 #[.agg #[.int .i64 ag, .int .i64 xf, .slice (some ad) m.length c1], .int .i64 i] W fun e w'=>e= .returned (.int .i64 (of:Nat))∧Gr W w'):=Lib.hid fun W gW=>by
  rw[HF.out.2.2.2.1]
  exact rhoff_any ag xf (some ad) c1 m HF.out.2.1 i HF.out.2.2.2.2 W ((H1.out.2.1.gr HK1.out).gr gW)
 clear hb hc
 go_upto_region 8 with (fail)
 clear y0 y1 y2
 go_loopw [10,11] (fun v j wr=>∃q:Nat,q≤C∧j= .int .i64 q∧Gr V1 wr∧wr.ownsRow V1.heap.size 54 2 v q (pcells (L.take q))) (fun _ j _=>C-(intOf j).toNat)
 case atStart=>exact ⟨0,Nat.zero_le _,rfl,Gr.refl _,World.ownsRow_nil _ _ _ _⟩
 case round=>
  obtain ⟨q,hq,rfl,hgr,hown⟩:=hrel
  obtain ⟨y0,y1,y2,y3⟩:=HAR.out wr hgr
  obtain ⟨Aw,cw,hvw⟩:=own_form hown
  subst hvw
  by_cases hlt:q<C
  ·
   have hlti:(q:Int)<(C:Int):=by omega
   have hql:q<L.length:=by rw[HL.out.1];exact hlt
   have hx:=HL.out.2.1 q hql
   have htk:pcells (L.take (q+1))=pcells (L.take q)++pcells [L[q]]:=by rw[List.take_succ_eq_append_getElem hql,pcells_append]
   have hin:=HIN2.out q hlt
   have hu1:IntKind.i64.wrap (12*(q:Int))=((12*q:Nat):Int):=by rw[IntWalk.i64_in _ (by omega)];simp
   have hu2:IntKind.i64.wrap ((of:Int)+((12*q:Nat):Int))=((of+12*q:Nat):Int):=by rw[IntWalk.i64_in _ (by omega)];simp
   obtain ⟨at_,hat⟩:∃at_,at_=of+12*q:=⟨_,rfl⟩
   obtain ⟨qq,hqq⟩:∃qq,qq=12*q:=⟨_,rfl⟩
   rw[←hat] at hu2 hin
   rw[←hqq] at hu1 hu2
   rw[←HF.out.2.2.2.1,←hat] at hx
   obtain ⟨sl,hsl⟩:∃sl,sl=slotS D at_:=⟨_,rfl⟩
   have hsl12:sl.length=12:=by rw[hsl];unfold slotS;rw[List.length_take,List.length_drop];omega
   rw[←hsl] at hx
   obtain ⟨pt,pn,hp⟩:∃pt pn,L[q]=(pt,pn):=⟨_,_,rfl⟩
   rw[hp] at hx htk
   injection hx with hx1 hx2
   have HRD:Hid (∀W,Gr w W→Calls Tryz.prog 25 #[.pointer (some ⟨X,0,none⟩), .string nmA, .int .i64 (at_:Nat), .int .i64 12] W (RetBr sl W)):=Lib.hid fun W gW=>by
    rw[hsl];exact xread_part HD.out.1 at_ 12 (by decide) hin W (HD.out.2.gr gW)
   have HDE:Hid (∀A c W,12≤c→Rb W A sl→Calls Tryz.prog 60 #[.slice A sl.length c] W (RetPt true pt pn W)):=Lib.hid fun A c W hc hr=>by
    rw[hx1,hx2];exact xdec_any A c sl hsl12 hc W hr
   have HTK:=Lib.hid htk
   have HGR:=Lib.hid hgr
   have HGW:=Lib.hid (HGA.out.trans hgr)
   have HOW:=Lib.hid hown
   have HS12:=Lib.hid hsl12
   have hgz:=hgr.size
   clear hx1 hx2 hp htk hgr hown hat hqq hsl hsl12 hin
   go_upto_region 12 with (first|(go_at_call 59;refine (HOF.out _ HGR.out).mono ?_;rintro e w2 ⟨rfl,g2⟩;have HG2:=Lib.hid g2;clear g2)|(go_at_call 25;refine (HRD.out _ (HGW.out.trans HG2.out)).mono ?_;rintro e w3 ⟨A3,c3,rfl,hc3,ho3,g3⟩;have HR3:=Lib.hid (And.intro hc3 ho3);have HG3:=Lib.hid (HG2.out.trans g3);clear g3 hc3 ho3)|(go_at_call 60;refine (HDE.out A3 c3 _ (by have:=HR3.out.1;rw[HS12.out] at this;exact this) (Rb.own HR3.out.2)).mono ?_;rintro e w4 ⟨rfl,g4⟩;have HG4:=Lib.hid (HG3.out.trans g4);have hz4:=(HG3.out.trans g4).size;clear g4))
   obtain ⟨V5,hV5⟩:∃V5,V5=w4.alloc (.cells #[.int .i64 pt, .int .i64 pn] 54):=⟨_,rfl⟩
   have k5:Gr w4 V5:=by rw[hV5];exact Gr.alloc (Gr.refl w4) _
   have n0:V5.cell? ⟨w4.heap.size,0,none⟩=some (.int .i64 pt):=by rw[hV5];go_simp
   have n1:V5.cell? ⟨w4.heap.size,1,none⟩=some (.int .i64 pn):=by rw[hV5];go_simp
   have HG5:=Lib.hid (HG4.out.trans k5)
   have hz5:V1.heap.size≤V5.heap.size:=Nat.le_trans hgz (HG4.out.trans k5).size
   rw[←hV5]
   clear hV5 k5 y0 y1 y2 y3
   go_wp2_with (at_builtin;have own5:=own_grU (own_grU HOW.out HG5.out) (Gr.alloc (Gr.refl V5) (.cells #[.int .i64 pt, .int .i64 pn] 54));have hrx:Rd (V5.alloc (.cells #[.int .i64 pt, .int .i64 pn] 54)) 2 (some ⟨V5.heap.size,0,none⟩) 1 (pcells [(pt,pn)]):=Rd.newU (W:=V5) (n:=1) (size:=2) rfl 54 (pcells [(pt,pn)]) rfl;refine wpList_append_rd rfl (.tmp 61) (.tmp 63) 38 rfl V1.heap.size 54 v0 _ 2 16 Tryz.underlying38 hv0 vz0 vz1 vz2 rfl (by decide) _ q _ rfl own5 (some ⟨V5.heap.size,0,none⟩) 1 _ (pcells [(pt,pn)]) rfl hrx (pcells_one _) (by unfold maxLen;omega) (by omega) (by first|(simp;done)|(simp;omega)) ?_;intro v6 w6 own6 hgr6 hob6;have H6:=Lib.hid (And.intro own6 (((HGR.out.trans HG5.out).alloc _).grown hgr6 (fun k e=>(own5.lt k e).1)));clear own5 hrx own6 hgr6 hob6)
   go_roundw
   case rel=>
    refine ⟨q+1,by omega,by go_num,H6.out.2,?_⟩
    rw[HTK.out]
    exact H6.out.1
   case measure=>simp[intOf];omega
  ·
   have hqe:q=C:=by omega
   subst hqe
   have hrv:Ri wr Aw L:=by
    have h2:=hown
    rw[←HL.out.1,List.take_length] at h2
    exact Ri.ownP h2
   have HRV:=Lib.hid (And.intro hrv (HGA.out.trans hgr))
   have HFR:Hid (∀ad,Aw=some ad→w.heap.size≤ad.block):=Lib.hid (fun ad e=>by
    subst e
    exact Nat.le_trans HGA.out.size (hown.lt ad.block (own_blkR hown)).1)
   clear hrv hgr hown
   go_wp2
   go_ret2
   exact ⟨HRV.out.2,Aw,cw,by rw[HL.out.1];rfl,HRV.out.1,HFR.out⟩
def crashL:List (Nat×List UInt8)→Nat→Nat→List UInt8→List UInt8
 | [],_,_,D=>D
 | (o,d)::_,0,m,D=>putB D o (d.take m)
 | (o,d)::r,n+1,m,D=>crashL r n m (putB D o d)
def z4:List UInt8:=[0,0,0,0]
def slotW (D1 D2:List UInt8) (p:Nat):List (Nat×List UInt8):=
 if slotS D2 p=slotS D1 p then [] else [(p,z4),(p+4,(slotS D2 p).drop 4),(p,(slotS D2 p).take 4)]
def slotsW (D1 D2:List UInt8):Nat→Nat→List (Nat×List UInt8)
 | _,0=>[]
 | p,k+1=>slotW D1 D2 p++slotsW D1 D2 (p+12) k
theorem slot_len {D:List UInt8} {p:Nat} (h:p+12≤D.length):(slotS D p).length=12:=by
 unfold slotS
 rw[List.length_take,List.length_drop]
 omega
theorem slot_put {D:List UInt8} {p a:Nat} {d:List UInt8} (h:p+12≤D.length) (hd:a+d.length≤12):slotS (putB D (p+a) d) p=putB (slotS D p) a d:=by
 have hs:=slot_len h
 apply List.ext_getElem?
 intro j
 rw[slotS_at,putB_at _ _ _ _ (by omega),putB_at _ _ _ _ (by omega),slotS_at]
 by_cases hj:j<12
 ·
  rw[if_pos hj,if_pos hj]
  by_cases h1:j<a
  ·
   rw[if_pos h1,if_pos (by omega)]
  ·
   rw[if_neg h1,if_neg (by omega)]
   by_cases h2:j<a+d.length
   ·
    rw[if_pos h2,if_pos (by omega)]
    congr 1
    omega
   ·
    rw[if_neg h2,if_neg (by omega)]
 ·
  rw[if_neg hj,if_neg hj,if_neg (by omega),if_neg (by omega)]
theorem slot_far {D:List UInt8} {k k':Nat} {d:List UInt8} (h:k+d.length≤D.length) (hk:k'+12≤k∨k+d.length≤k'):slotS (putB D k d) k'=slotS D k':=by
 apply List.ext_getElem?
 intro j
 rw[slotS_at,slotS_at]
 by_cases hj:j<12
 ·
  rw[if_pos hj,if_pos hj,putB_at _ _ _ _ h]
  by_cases h1:k'+j<k
  ·
   rw[if_pos h1]
  ·
   rw[if_neg h1,if_neg (by omega)]
 ·
  rw[if_neg hj,if_neg hj]
def Tn (s1 s2 z:List UInt8):Prop:=
 z=s1∨z=s2∨(∃m,z=putB s1 0 (z4.take m))∨z.take 4=z4∨∃m,z=putB (z4++s2.drop 4) 0 ((s2.take 4).take m)
structure Pre (D1 D2:List UInt8) (b p Q:Nat) (D:List UInt8):Prop where
 len:D.length=D1.length
 hd:D.take b=D1.take b
 dn:∀q,b+12*q<p→slotS D (b+12*q)=slotS D2 (b+12*q)
 td:∀q,p≤b+12*q→q<Q→slotS D (b+12*q)=slotS D1 (b+12*q)
structure OkT (D1 D2:List UInt8) (b Q:Nat) (D:List UInt8):Prop where
 len:D.length=D1.length
 hd:D.take b=D1.take b
 sl:∀q,q<Q→Tn (slotS D1 (b+12*q)) (slotS D2 (b+12*q)) (slotS D (b+12*q))
theorem take_put {D:List UInt8} {b k:Nat} {d:List UInt8} (h:k+d.length≤D.length) (hb:b≤k):(putB D k d).take b=D.take b:=by
 apply List.ext_getElem?
 intro j
 rw[List.getElem?_take,List.getElem?_take]
 by_cases hj:j<b
 ·
  rw[if_pos hj,if_pos hj,putB_at _ _ _ _ h,if_pos (by omega)]
 ·
  rw[if_neg hj,if_neg hj]
theorem put_zero {s:List UInt8} (h:s.length=12):putB s 0 z4=z4++s.drop 4:=by
 unfold putB z4
 simp
theorem put_mid {s d:List UInt8} (hs:s.length=12) (hd:d.length=8):putB (z4++s.drop 4) 4 d=z4++d:=by
 unfold putB z4
 simp[hd,hs]
theorem put_fin {s:List UInt8} (hs:s.length=12):putB (z4++s.drop 4) 0 (s.take 4)=s:=by
 unfold putB z4
 simp[hs]
theorem z4_len (m:Nat):(z4.take m).length≤4:=by
 rw[List.length_take]
 have:z4.length=4:=rfl
 omega
theorem crash_ok {D1 D2:List UInt8} {b Q:Nat} (hl:D2.length=D1.length) (hQ:b+12*Q≤D1.length):∀(k q:Nat) (n m:Nat) (D:List UInt8),q+k=Q→Pre D1 D2 b (b+12*q) Q D→OkT D1 D2 b Q (crashL (slotsW D1 D2 (b+12*q) k) n m D)
 | 0,q,n,m,D,hq,h=>by
  refine ⟨?_,?_,?_⟩
  ·
   simpa [slotsW,crashL] using h.len
  ·
   simpa [slotsW,crashL] using h.hd
  ·
   intro q' hq'
   simp only[slotsW,crashL]
   exact .inr (.inl (h.dn q' (by omega)))
 | k+1,q,n,m,D,hq,h=>by
  have hp:b+12*q+12≤D.length:=by rw[h.len];omega
  have hp1:b+12*q+12≤D1.length:=by omega
  have hp2:b+12*q+12≤D2.length:=by omega
  have hs1:=slot_len hp1
  have hs2:=slot_len hp2
  have htd:=h.td q (Nat.le_refl _) (by omega)
  have hnx:b+12*q+12=b+12*(q+1):=by omega
  rw[slotsW]
  by_cases he:slotS D2 (b+12*q)=slotS D1 (b+12*q)
  ·
   unfold slotW
   rw[if_pos he,List.nil_append,hnx]
   refine crash_ok hl hQ k (q+1) n m D (by omega) ⟨h.len,h.hd,fun q' hq'=>?_,fun q' hq' hq2=>h.td q' (by omega) hq2⟩
   by_cases e:q'=q
   ·
    subst e;rw[htd,he]
   ·
    exact h.dn q' (by omega)
  ·
   unfold slotW
   rw[if_neg he]

   have hfar:∀(D':List UInt8) (a:Nat) (d:List UInt8) (q':Nat),D'.length=D1.length→a+d.length≤12→q'≠q→slotS (putB D' (b+12*q+a) d) (b+12*q')=slotS D' (b+12*q'):=fun D' a d q' hD' ha hne=>slot_far (by omega) (by omega)
   have hlen:∀(D':List UInt8) (a:Nat) (d:List UInt8),D'.length=D1.length→a+d.length≤12→(putB D' (b+12*q+a) d).length=D1.length:=fun D' a d hD' ha=>by rw[putB_len (by omega)];exact hD'
   have hhd:∀(D':List UInt8) (a:Nat) (d:List UInt8),D'.length=D1.length→a+d.length≤12→D'.take b=D1.take b→(putB D' (b+12*q+a) d).take b=D1.take b:=fun D' a d hD' ha e=>by rw[take_put (by omega) (by omega)];exact e
   have hoth:∀D':List UInt8,(∀q',q'≠q→slotS D' (b+12*q')=slotS D (b+12*q'))→∀q',q'<Q→q'≠q→Tn (slotS D1 (b+12*q')) (slotS D2 (b+12*q')) (slotS D' (b+12*q')):=fun D' hD' q' hq' hne=>by
    rw[hD' q' hne]
    rcases Nat.lt_or_ge q' q with hlt|hge
    ·
     exact .inr (.inl (h.dn q' (by omega)))
    ·
     exact .inl (h.td q' (by omega) hq')
   have z4l:z4.length=4:=rfl
   have l8:((slotS D2 (b+12*q)).drop 4).length=8:=by rw[List.length_drop,hs2]
   have l4:((slotS D2 (b+12*q)).take 4).length=4:=by rw[List.length_take,hs2];rfl
   match n with
   | 0=>
    have hm:=z4_len m
    refine ⟨hlen D 0 _ h.len (by omega),hhd D 0 _ h.len (by omega) h.hd,fun q' hq'=>?_⟩
    by_cases e:q'=q
    ·
     subst e
     refine .inr (.inr (.inl ⟨m,?_⟩))
     show slotS (putB D (b+12*q'+0) (z4.take m)) (b+12*q')=_
     rw[slot_put hp (by omega),htd]
    ·
     exact hoth _ (fun q2 hne=>hfar D 0 _ q2 h.len (by omega) hne) q' hq' e
   | 1=>
    have hm:(((slotS D2 (b+12*q)).drop 4).take m).length≤8:=by rw[List.length_take];omega
    have e1:=hlen D 0 z4 h.len (by omega)
    refine ⟨hlen _ 4 _ e1 (by omega),hhd _ 4 _ e1 (by omega) (hhd D 0 _ h.len (by omega) h.hd),fun q' hq'=>?_⟩
    by_cases e:q'=q
    ·
     subst e
     refine .inr (.inr (.inr (.inl ?_)))
     show (slotS (putB (putB D (b+12*q'+0) z4) (b+12*q'+4) _) (b+12*q')).take 4=z4
     rw[slot_put (by omega) (by omega),slot_put hp (by omega),htd,put_zero hs1,take_put (by simp[z4l,hs1];omega) (Nat.le_refl _)]
     rfl
    ·
     exact hoth _ (fun q2 hne=>(hfar _ 4 _ q2 e1 (by omega) hne).trans (hfar D 0 _ q2 h.len (by omega) hne)) q' hq' e
   | 2=>
    have hm:(((slotS D2 (b+12*q)).take 4).take m).length≤4:=by rw[List.length_take];omega
    have e1:=hlen D 0 z4 h.len (by omega)
    have e2:=hlen _ 4 ((slotS D2 (b+12*q)).drop 4) e1 (by omega)
    refine ⟨hlen _ 0 _ e2 (by omega),hhd _ 0 _ e2 (by omega) (hhd _ 4 _ e1 (by omega) (hhd D 0 _ h.len (by omega) h.hd)),fun q' hq'=>?_⟩
    by_cases e:q'=q
    ·
     subst e
     refine .inr (.inr (.inr (.inr ⟨m,?_⟩)))
     show slotS (putB (putB (putB D (b+12*q'+0) z4) (b+12*q'+4) _) (b+12*q'+0) _) (b+12*q')=_
     rw[slot_put (by omega) (by omega),slot_put (by omega) (by omega),slot_put hp (by omega),htd,put_zero hs1,put_mid hs1 l8]
    ·
     exact hoth _ (fun q2 hne=>((hfar _ 0 _ q2 e2 (by omega) hne).trans (hfar _ 4 _ q2 e1 (by omega) hne)).trans (hfar D 0 _ q2 h.len (by omega) hne)) q' hq' e
   | n+3=>
    have e1:=hlen D 0 z4 h.len (by omega)
    have e2:=hlen _ 4 ((slotS D2 (b+12*q)).drop 4) e1 (by omega)
    have e3:=hlen _ 0 ((slotS D2 (b+12*q)).take 4) e2 (by omega)
    rw[hnx]
    refine crash_ok hl hQ k (q+1) n m _ (by omega) ⟨e3,hhd _ 0 _ e2 (by omega) (hhd _ 4 _ e1 (by omega) (hhd D 0 _ h.len (by omega) h.hd)),fun q' hq'=>?_,fun q' hq' hq2=>?_⟩
    ·
     by_cases e:q'=q
     ·
      subst e
      show slotS (putB (putB (putB D (b+12*q'+0) z4) (b+12*q'+4) _) (b+12*q'+0) _) (b+12*q')=_
      rw[slot_put (by omega) (by omega),slot_put (by omega) (by omega),slot_put hp (by omega),htd,put_zero hs1,put_mid hs1 l8,put_fin hs2]
     ·
      exact (((hfar _ 0 ((slotS D2 (b+12*q)).take 4) q' e2 (by omega) e).trans (hfar _ 4 _ q' e1 (by omega) e)).trans (hfar D 0 _ q' h.len (by omega) e)).trans (h.dn q' (by omega))
    ·
     have e:q'≠q:=by omega
     exact (((hfar _ 0 ((slotS D2 (b+12*q)).take 4) q' e2 (by omega) e).trans (hfar _ 4 _ q' e1 (by omega) e)).trans (hfar D 0 _ q' h.len (by omega) e)).trans (h.td q' (by omega) hq2)
end Go.Proofs.YtoncapkmaeghfaaGreat
