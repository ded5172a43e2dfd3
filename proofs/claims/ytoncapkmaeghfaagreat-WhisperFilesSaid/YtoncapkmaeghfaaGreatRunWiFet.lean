import Derived.Test.YtoncapkmaeghfaaGreatRunRwInf
import Derived.Test.YtoncapkmaeghfaaGreatRunRegR
set_option linter.all false
set_option maxRecDepth 1000000
set_option maxHeartbeats 12800000
namespace Go.Proofs.YtoncapkmaeghfaaGreat
open Go.RowKit
theorem which_at {m:Arcs} {d:Int} {k:Nat} (hk:k<m.length-1) (h:d≤(stpS m k:Int)*cntS m k) (hb:∀j,j<k→¬d≤(stpS m j:Int)*cntS m j):whichS m d=k:=by
 unfold whichS
 have hl:k<(m.take (m.length-1)).length:=by rw[List.length_take];omega
 refine (List.findIdx_eq hl).2 ⟨?_,fun j hj=>?_⟩
 ·
  rw[List.getElem_take,←stpS_at (by omega),←cntS_at (by omega)];exact decide_eq_true h
 ·
  rw[List.getElem_take,←stpS_at (by omega),←cntS_at (by omega)];exact decide_eq_false (hb j hj)
theorem which_last {m:Arcs} {d:Int} (h1:1≤m.length) (hb:∀j,j<m.length-1→¬d≤(stpS m j:Int)*cntS m j):whichS m d=m.length-1:=by
 unfold whichS
 have hl:(m.take (m.length-1)).length=m.length-1:=by rw[List.length_take];omega
 conv=>rhs;rw[←hl]
 refine List.findIdx_eq_length.2 fun x hx=>?_
 obtain ⟨j,hj,e⟩:=List.mem_iff_getElem.1 hx
 rw[List.length_take] at hj
 rw[←e,List.getElem_take,←stpS_at (by omega),←cntS_at (by omega)]
 exact decide_eq_false (hb j (by omega))
theorem align_mod {t step:Int} (h:1≤step) (h':0≤t):∃k:Int,alignS t step=k*step∧0≤k:=by
 rw[alignS_of h h']
 refine ⟨t/step,?_,Int.ediv_nonneg h' (by omega)⟩
 have:=Int.mul_ediv_add_emod t step
 rw[Int.mul_comm] at this
 omega
def manyS (m:Arcs) (i:Nat) (fr un:Int):Nat:=((endW m i fr un-startS m i fr)/stpS m i).toNat
theorem many_eq {m:Arcs} {i:Nat} {fr un:Int} (h:1≤stpS m i) (h1:0≤fr) (h2:0≤un):startS m i fr+manyS m i fr un*stpS m i=endW m i fr un∧1≤manyS m i fr un:=by
 obtain ⟨a,ha,ha0⟩:=align_mod (t:=fr+stpS m i) (step:=(stpS m i:Int)) (by omega) (by omega)
 obtain ⟨b,hb,hb0⟩:=align_mod (t:=un+stpS m i) (step:=(stpS m i:Int)) (by omega) (by omega)
 have hs:startS m i fr=a*stpS m i:=ha
 have he:endW m i fr un=max (b*stpS m i) (a*stpS m i+stpS m i):=by unfold endW;rw[hb,hs]
 have hc:∃c:Int,endW m i fr un=c*stpS m i∧a+1≤c:=by
  rw[he]
  by_cases hba:a+1≤b
  ·
   refine ⟨b,?_,hba⟩
   have:(a+1)*(stpS m i:Int)≤b*stpS m i:=Int.mul_le_mul_of_nonneg_right hba (by omega)
   rw[Int.add_mul,Int.one_mul] at this
   omega
  ·
   refine ⟨a+1,?_,Int.le_refl _⟩
   have:b*(stpS m i:Int)≤a*stpS m i:=Int.mul_le_mul_of_nonneg_right (by omega) (by omega)
   rw[Int.add_mul,Int.one_mul]
   omega
 obtain ⟨c,hc1,hc2⟩:=hc
 have hq:(endW m i fr un-startS m i fr)/stpS m i=c-a:=by
  rw[hc1,hs,←Int.sub_mul,Int.mul_ediv_cancel _ (by omega)]
 unfold manyS
 rw[hq,hc1,hs]
 have:((c-a).toNat:Int)=c-a:=by omega
 rw[this,Int.sub_mul]
 omega
structure SrB (w:World) (sb:Nat) (st S:Int) (v:Value):Prop where
 c0:w.cell? ⟨sb,0,none⟩=some (.string nmA)
 c1:w.cell? ⟨sb,1,none⟩=some (.int .i64 st)
 c2:w.cell? ⟨sb,2,none⟩=some (.int .i64 S)
 c3:w.cell? ⟨sb,3,none⟩=some v
 c4:w.cell? ⟨sb,4,none⟩=some (.int .i64 0)
 f3:w.frozen? ⟨sb,3,none⟩=false
 lt:sb<w.heap.size
theorem SrB.kp {w w':World} {sb:Nat} {st S:Int} {v:Value} {T:Nat→Prop} (h:SrB w sb st S v) (k:Kp T w w') (hn:¬T sb):SrB w' sb st S v:=
 ⟨(k.cell (a:=⟨sb,0,none⟩) h.lt hn).trans h.c0,(k.cell (a:=⟨sb,1,none⟩) h.lt hn).trans h.c1,(k.cell (a:=⟨sb,2,none⟩) h.lt hn).trans h.c2,(k.cell (a:=⟨sb,3,none⟩) h.lt hn).trans h.c3,(k.cell (a:=⟨sb,4,none⟩) h.lt hn).trans h.c4,(k.frozen (a:=⟨sb,3,none⟩) h.lt hn).trans h.f3,Nat.lt_of_lt_of_le h.lt k.size⟩
theorem SrB.put {w:World} {sb:Nat} {st S:Int} {v:Value} (h:SrB w sb st S v) (u:Value):SrB (w.setCell ⟨sb,3,none⟩ u) sb st S u:=by
 have e:∀o,o≠3→(w.setCell ⟨sb,3,none⟩ u).cell? ⟨sb,o,none⟩=w.cell? ⟨sb,o,none⟩:=fun o ho=>World.cell?_setCell_other w ⟨sb,3,none⟩ ⟨sb,o,none⟩ u (by first|(simp[ho];done)|(simp;omega))
 exact ⟨(e 0 (by decide)).trans h.c0,(e 1 (by decide)).trans h.c1,(e 2 (by decide)).trans h.c2,World.cell?_setCell_same' _ _ _ (by rw[h.c3];rfl),(e 4 (by decide)).trans h.c4,by rw[World.frozen?_setCell];exact h.f3,by simpa using h.lt⟩
theorem SrB.c3K {w W:World} {sb:Nat} {st S:Int} {v:Value} {T:Nat→Prop} (h:SrB w sb st S v∧¬T sb) (k:Kp T w W):W.cell? ⟨sb,3,none⟩=some v:=(h.1.kp k h.2).c3
theorem gr_over {w w1 w2:World} {sb:Nat} (g:Gr w w1) (k:Kp (fun q=>q=sb) w1 w2) (hs:w.heap.size≤sb):Gr w w2:=
 ((Kp.of_gr (fun q=>q=sb) g).trans k (fun _ _ e=>e)).gr (fun i hi e=>by omega)
def fetV (m:Arcs) (D:List UInt8) (now frm unt:Int):List Vl:=valsS m D (whichS m (now-frS m now frm)) (startS m (whichS m (now-frS m now frm)) (frS m now frm)) (manyS m (whichS m (now-frS m now frm)) (frS m now frm) (min unt now))
def RetFe (m:Arcs) (D:List UInt8) (now frm unt:Int) (w:World) (e:Ending) (w':World):Prop:=
 Gr w w'∧∃A c,e= .returned (.tuple #[.agg #[.string nmA, .int .i64 (startS m (whichS m (now-frS m now frm)) (frS m now frm)), .int .i64 (stpS m (whichS m (now-frS m now frm)):Nat), .slice A (fetV m D now frm unt).length c, .int .i64 0], .int .i64 0])∧Rv w' A (fetV m D now frm unt)
theorem wfetch_any {Y:Nat→Prop} {F P M:Nat} {R:Option Nat} {room:Int} {n:Nat} {D:List UInt8} {ag xf:Nat} {m:Arcs} (hD:(D.length:Int)≤1073741824) (ho:opS D=some (ag,xf,m)) (now frm unt:Int) (hnow1:1≤now) (hnow2:now≤4294967295) (h1:frm≤unt) (h2:frm≤now) (h3:0≤unt) (h4:now-spanS m≤unt) (w:World) (h:FsM Y w F P M R room n (some D)) :
  Calls Tryz.prog 36 #[.pointer (some ⟨F,0,none⟩), .string nmA, .int .i64 now, .int .i64 frm, .int .i64 unt] w (RetFe m D now frm unt w):=by
 obtain ⟨v0,hv0,vz0,vz1,vz2⟩:=info_parts info_val
 obtain ⟨V,hV⟩:∃V,V=w.alloc (.cells #[.string ⟨#[]⟩, .int .i64 0, .int .i64 0, .slice none 0 0, .int .i64 0] 89):=⟨_,rfl⟩
 have gV:Gr w V:=by rw[hV];exact Gr.alloc (Gr.refl w) _
 have hz:w.heap.size<V.heap.size:=by rw[hV];simp
 have b0:V.cell? ⟨w.heap.size,0,none⟩=some (.string ⟨#[]⟩):=by rw[hV];go_simp
 have b1:V.cell? ⟨w.heap.size,1,none⟩=some (.int .i64 0):=by rw[hV];go_simp
 have b2:V.cell? ⟨w.heap.size,2,none⟩=some (.int .i64 0):=by rw[hV];go_simp
 have b3:V.cell? ⟨w.heap.size,3,none⟩=some (.slice none 0 0):=by rw[hV];go_simp
 have b4:V.cell? ⟨w.heap.size,4,none⟩=some (.int .i64 0):=by rw[hV];go_simp
 have f0:∀o,V.frozen? ⟨w.heap.size,o,none⟩=false:=fun o=>by rw[hV];go_simp
 obtain ⟨-,hlen,hM⟩:=opS_of ho
 have hF:=MayF.ofH hM
 obtain ⟨sp,hsp⟩:∃sp,sp=spanS m:=⟨_,rfl⟩
 have hsp4:(sp:Int)≤4294967295:=by have:=hF.last;rw[hsp];unfold spanS;omega
 have HSP:Hid (∀X b cc g d (W:World),FiM W X F P M R room n ag xf b cc m g d D→Calls Tryz.prog 68 #[.agg #[.int .i64 ag, .int .i64 xf, .slice (some ⟨b,0,none⟩) m.length cc]] W fun e w'=>e= .returned (.int .i64 (sp:Nat))∧Gr W w'):=Lib.hid (fun X b cc g d W hW=>by
  have:=span_any ag xf (some ⟨b,0,none⟩) cc (ints m) (by rw[ints_len];have:=hF.l8;omega) W hW.ri
  rw[hM,nats_ints,ints_len] at this
  rw[hsp]
  exact this)
 have HOP:=Lib.hid (open_any D hD V (h.gr gV))
 have HOD:=Lib.hid ho
 have HNW:Hid ((decide (1≤now)&&decide (now≤4294967295))=true):=Lib.hid (by rw[decide_eq_true hnow1,decide_eq_true hnow2];rfl)
 rw[←hsp] at h4
 have hw1:IntKind.i64.wrap (now-(sp:Int))=now-(sp:Int):=IntWalk.i64_in _ (by omega)
 have n1:¬unt<frm:=by omega
 have n2:¬now<frm:=by omega
 have n3:¬unt<0:=by omega
 have n4:¬unt<now-(sp:Int):=by omega
 obtain ⟨fr,hfr⟩:∃fr,fr=frS m now frm:=⟨_,rfl⟩
 obtain ⟨un,hun⟩:∃un,un=min unt now:=⟨_,rfl⟩
 obtain ⟨ol,hol⟩:∃ol:Int,ol=now-(sp:Int):=⟨_,rfl⟩
 have hfrv:max (max 0 frm) ol=fr:=by rw[hfr,hol];unfold frS;rw[←hsp]
 have HMX:(if (if 0<frm then frm else 0)<now-(sp:Int) then now-(sp:Int) else if 0<frm then frm else 0)=fr:=by
  rw[hfr];unfold frS;rw[←hsp]
  by_cases e1:0<frm
  ·
   simp only[e1,if_true]
   by_cases e2:frm<now-(sp:Int)
   ·
    rw[if_pos e2];omega
   ·
    rw[if_neg e2];omega
  ·
   simp only[e1,if_false]
   by_cases e2:0<now-(sp:Int)
   ·
    rw[if_pos e2];omega
   ·
    rw[if_neg e2];omega
 have hfr0:0≤fr:=by rw[hfr];unfold frS;omega
 have hfrn:fr≤now:=by rw[hfr];unfold frS;rw[←hsp];omega
 have hun0:0≤un:=by omega
 have hunn:un≤now:=by omega
 obtain ⟨dd,hdd⟩:∃dd:Int,now-fr=dd:=⟨_,rfl⟩
 have hwd:IntKind.i64.wrap (now-fr)=dd:=by rw[←hdd];exact IntWalk.i64_in _ (by omega)
 have hwdd:IntKind.i64.wrap dd=dd:=by rw[←hdd];exact IntWalk.i64_in _ (by omega)
 have HQ:=Lib.hid (And.intro hfr (And.intro hun hdd))
 have hm1:=hF.l1
 have hm8:(m.length:Int)≤8:=by have:=hF.l8;omega
 obtain ⟨ml,hml⟩:∃ml,ml=m.length-1:=⟨_,rfl⟩
 have hwl:IntKind.i64.wrap ((m.length:Int)-1)=(ml:Int):=by rw[show (m.length:Int)-1=(ml:Int) by omega];exact IntWalk.i64_in _ (by omega)
 have hmll:(ml:Int)<(m.length:Int):=by omega
 have HML:=Lib.hid (And.intro hml hm1)
 have HV:=Lib.hid hV
 have HGV:=Lib.hid gV
 have HF:=Lib.hid (And.intro hF (And.intro hsp hlen))
 have HFZ:=Lib.hid f0
 have HVZ:=Lib.hid (And.intro hz (And.intro b0 (And.intro b1 (And.intro b2 (And.intro b3 b4)))))
 clear hV gV h hM hF ho hD hlen hsp f0 hfr hun hol hfrv hml hm1 h1 h2 h3 h4
 go_enter Tryz.func36,Tryz.ntmps36
 go_upto_region 1 with (fail)
 rw[←HV.out]
 clear HV
 go_upto_region 10 with (first|(go_at_call 44;refine HOP.out.mono ?_;rintro e w1 ⟨g1,h1⟩;rw[HOD.out] at h1;obtain ⟨X,b,cc,g,d,rfl,hfi,hgw⟩:=h1;have H1:=Lib.hid (And.intro g1 (And.intro hfi hgw));have z0:=(Below.cell g1 (p:=⟨w.heap.size,0,none⟩) hz).trans b0;have z1:=(Below.cell g1 (p:=⟨w.heap.size,1,none⟩) hz).trans b1;have z2:=(Below.cell g1 (p:=⟨w.heap.size,2,none⟩) hz).trans b2;have z3:=(Below.cell g1 (p:=⟨w.heap.size,3,none⟩) hz).trans b3;have z4:=(Below.cell g1 (p:=⟨w.heap.size,4,none⟩) hz).trans b4;have x0:=hfi.x0;have x1:=hfi.x1;have x2:=hfi.x2;have hz1:=Nat.lt_of_lt_of_le hz g1.size;clear g1 hfi hgw)|(go_at_call 57;refine (isNow_any now _).mono ?_;rintro e w2 ⟨rfl,rfl⟩;rw[HNW.out])|(go_at_call 68;refine (HSP.out X b cc g d w1 H1.out.2.1).mono ?_;rintro e w3 ⟨rfl,g3⟩;have HG3:=Lib.hid g3;clear g3 x0 x1 x2 z0 z1 z2 z3 z4))
 try simp only[HMX]
 try rw[show min unt now=un from HQ.out.2.1.symm]
 have HF3:=Lib.hid (H1.out.2.1.gr HG3.out)
 have HAR:=Lib.hid (fun (q:Nat) (hq:q<m.length) W (gW:Gr w3 W)=>(HF3.out.gr gW).arc hq)
 clear n1 n2 n3 n4 HMX hw1 hz b0 b1 b2 b3 b4
 go_wp2
 go_loopw [15] (fun k wr=>∃q:Nat,q≤ml∧k= .int .i64 q∧Gr w3 wr∧Hid (∀j,j<q→¬dd≤(stpS m j:Int)*cntS m j)) (fun k _=>m.length-(intOf k).toNat)
 case atStart=>exact ⟨0,Nat.zero_le _,rfl,Gr.refl _,Lib.hid fun _ h=>absurd h (Nat.not_lt_zero _)⟩
 case round=>
  obtain ⟨q,hq,rfl,hgr,HB⟩:=hrel
  obtain ⟨pr,hpr⟩:∃pr:Int,(stpS m q:Int)*cntS m q=pr:=⟨_,rfl⟩
  obtain ⟨r,hr⟩:∃r:Bool,r=(decide (q<ml)&&decide (pr<dd)):=⟨_,rfl⟩
  have hqi:(q:Int)≤(ml:Int):=by omega
  have hqm:q<m.length:=by have:=HML.out;omega
  have hqmi:(q:Int)<(m.length:Int):=by omega
  have hst:=HF.out.1.s1 q hqm
  have hct:=HF.out.1.c1 q hqm
  have hpw:IntKind.i64.wrap ((stpS m q:Int)*cntS m q)=pr:=by rw[prod_small _ _ (by omega) (by omega) (by omega) (by omega)];exact hpr
  have hwq:IntKind.i64.wrap (q:Int)=(q:Int):=IntWalk.i64_in _ (by omega)
  have HGR:=Lib.hid hgr
  have HARQ:=Lib.hid (fun W (gW:Gr wr W)=>HAR.out q hqm W (hgr.trans gW))
  have HFR:=Lib.hid (HF3.out.gr hgr)
  have HPR:=Lib.hid (And.intro hpr (And.intro hr hqm))
  clear hgr hpr hst hct
  go_upto_region 11 with (fail)
  go_cut [100] from 67 to 102 (fun s wx=>s= .bool r∧Gr wr wx)
  case first=>
   by_cases hlt:q<ml
   ·
    have hlti:(q:Int)<(ml:Int):=by omega
    by_cases hp:pr<dd
    ·
     have hrr:r=true:=by rw[hr,decide_eq_true hlt,decide_eq_true hp];rfl
     subst hrr
     clear hr hq
     refine region_R (by kernel_rfl) (by kernel_rfl) ?_
     iterate 5 (refine rv ?_;simp only[Pu])
     refine r_val (v:=?qv17) (by kernel_rfl) (fun W hW=>?qh17) ?qr17
     case qh17=>have y2:=(HFR.out.gr hW).x2;go_light;go_simp;rfl
     simp only[Pu]
     iterate 8 (refine rv ?_;simp only[Pu])
     refine r_val (v:=?qv26) (by kernel_rfl) (fun W hW=>?qh26) ?qr26
     case qh26=>have y2:=(HFR.out.gr hW).x2;go_light;go_simp;rfl
     simp only[Pu]
     iterate 3 (refine rv ?_;simp only[Pu])
     refine r_val (v:=?qv30) (by kernel_rfl) (fun W hW=>?qh30) ?qr30
     case qh30=>obtain ⟨a0,a1⟩:=HARQ.out _ hW;go_light;go_simp;rfl
     simp only[Pu]
     iterate 4 (refine rv ?_;simp only[Pu])
     refine r_val (v:=?qv35) (by kernel_rfl) (fun W hW=>?qh35) ?qr35
     case qh35=>have y2:=(HFR.out.gr hW).x2;go_light;go_simp;rfl
     simp only[Pu]
     iterate 3 (refine rv ?_;simp only[Pu])
     refine r_val (v:=?qv39) (by kernel_rfl) (fun W hW=>?qh39) ?qr39
     case qh39=>obtain ⟨a0,a1⟩:=HARQ.out _ hW;go_light;go_simp;rfl
     simp only[Pu]
     iterate 6 (refine rv ?_;simp only[Pu])
     refine r_nil ?_
     intro w5 g5
     go_wp2_with fail
     go_meet
     exact ⟨by first|rfl|trivial|simp[hp],g5⟩
    ·
     have hrr:r=false:=by rw[hr,decide_eq_false hp,Bool.and_false]
     subst hrr
     clear hr hq
     refine region_R (by kernel_rfl) (by kernel_rfl) ?_
     iterate 5 (refine rv ?_;simp only[Pu])
     refine r_val (v:=?qv51) (by kernel_rfl) (fun W hW=>?qh51) ?qr51
     case qh51=>have y2:=(HFR.out.gr hW).x2;go_light;go_simp;rfl
     simp only[Pu]
     iterate 8 (refine rv ?_;simp only[Pu])
     refine r_val (v:=?qv60) (by kernel_rfl) (fun W hW=>?qh60) ?qr60
     case qh60=>have y2:=(HFR.out.gr hW).x2;go_light;go_simp;rfl
     simp only[Pu]
     iterate 3 (refine rv ?_;simp only[Pu])
     refine r_val (v:=?qv64) (by kernel_rfl) (fun W hW=>?qh64) ?qr64
     case qh64=>obtain ⟨a0,a1⟩:=HARQ.out _ hW;go_light;go_simp;rfl
     simp only[Pu]
     iterate 4 (refine rv ?_;simp only[Pu])
     refine r_val (v:=?qv69) (by kernel_rfl) (fun W hW=>?qh69) ?qr69
     case qh69=>have y2:=(HFR.out.gr hW).x2;go_light;go_simp;rfl
     simp only[Pu]
     iterate 3 (refine rv ?_;simp only[Pu])
     refine r_val (v:=?qv73) (by kernel_rfl) (fun W hW=>?qh73) ?qr73
     case qh73=>obtain ⟨a0,a1⟩:=HARQ.out _ hW;go_light;go_simp;rfl
     simp only[Pu]
     iterate 6 (refine rv ?_;simp only[Pu])
     refine r_nil ?_
     intro w5 g5
     go_wp2_with fail
     go_meet
     exact ⟨by first|rfl|trivial|simp[hp],g5⟩
   ·
    have hlti:¬(q:Int)<(ml:Int):=by omega
    have hrr:r=false:=by rw[hr,decide_eq_false hlt,Bool.false_and]
    subst hrr
    clear hr hq
    refine region_R (by kernel_rfl) (by kernel_rfl) ?_
    iterate 5 (refine rv ?_;simp only[Pu])
    refine r_val (v:=?qv85) (by kernel_rfl) (fun W hW=>?qh85) ?qr85
    case qh85=>have y2:=(HFR.out.gr hW).x2;go_light;go_simp;rfl
    simp only[Pu]
    iterate 4 (refine rv ?_;simp only[Pu])
    iterate 23 (refine rs ?_;simp only[Pu])
    refine rv ?_;simp only[Pu]
    refine r_nil ?_
    intro w5 g5
    go_wp2_with fail
    go_meet
    exact ⟨by first|rfl|trivial,g5⟩
  case rest=>
   obtain ⟨rfl,hgx⟩:=hcut
   have HGX:=Lib.hid (HGR.out.trans hgx)
   clear hgx
   cases r with
   | true=>
    have HN:Hid (q<ml∧∀j,j<q+1→¬dd≤(stpS m j:Int)*cntS m j):=Lib.hid (by
     have h:=hr.symm
     rw[Bool.and_eq_true,decide_eq_true_eq,decide_eq_true_eq] at h
     refine ⟨h.1,fun j hj=>?_⟩
     rcases Nat.lt_or_ge j q with e|e
     ·
      exact HB.out j e
     ·
      have e2:j=q:=by omega
      rw[e2,HPR.out.1]
      omega)
    clear hr
    go_wp2
    go_roundw
    case rel=>exact ⟨q+1,by have:=HN.out.1;omega,by go_num,HGX.out,Lib.hid HN.out.2⟩
    case measure=>simp[intOf];omega
   | false=>
    have hix:whichS m dd=q:=by
     have h:=hr.symm
     rw[Bool.and_eq_false_iff,decide_eq_false_iff_not,decide_eq_false_iff_not] at h
     by_cases hlt:q<ml
     ·
      exact which_at (by rw[←HML.out.1];exact hlt) (by rw[HPR.out.1];have:=h.resolve_left (fun e=>e hlt);omega) HB.out
     ·
      have hqe:q=m.length-1:=by rw[←HML.out.1];omega
      rw[hqe]
      exact which_last HML.out.2 (fun j hj=>HB.out j (by omega))
    clear hr hpw
    obtain ⟨S,hS⟩:∃S,S=stpS m q:=⟨_,rfl⟩
    have hs1:=HF.out.1.s1 q hqm
    obtain ⟨st,hst⟩:∃st,st=startS m q fr:=⟨_,rfl⟩
    obtain ⟨en,hen⟩:∃en,en=endW m q fr un:=⟨_,rfl⟩
    obtain ⟨N,hN⟩:∃N,N=manyS m q fr un:=⟨_,rfl⟩
    obtain ⟨hm1e,hN1⟩:=many_eq (m:=m) (i:=q) hs1.1 hfr0 hun0
    have hal:=fun W=>align_any (fr+S) S (by omega) W
    have hal2:=fun W=>align_any (un+S) S (by omega) W
    obtain ⟨e1,he1⟩:∃e1,e1=alignS (un+S) S:=⟨_,rfl⟩
    have hst2:alignS (fr+S) S=st:=by rw[hst,hS];rfl
    have hen2:en=max e1 (st+S):=by rw[hen,he1,hst,hS];rfl
    have hsf:=align_facts (t:=fr+S) (step:=(S:Int)) (by omega) (by omega)
    have hef:=align_facts (t:=un+S) (step:=(S:Int)) (by omega) (by omega)
    rw[hst2] at hal hsf
    rw[←he1] at hal2 hef
    rw[←hst,←hN,←hS,←hen] at hm1e
    rw[←hN] at hN1
    have hal3:∀W,Calls Tryz.prog 74 #[.int .i64 (un+S), .int .i64 S] W fun e w'=>e= .returned (.int .i64 e1)∧Gr W w':=fun W=>(hal2 W).mono fun e w' h=>⟨h.1,by rw[←h.2];exact Gr.refl _⟩
    have HAL:=Lib.hid hal
    have HAL2:=Lib.hid hal3
    have hSi:(S:Int)≤16777216:=by omega
    have hS1:1≤(S:Int):=by omega
    have hwa:IntKind.i64.wrap (fr+(S:Int))=fr+(S:Int):=IntWalk.i64_in _ (by omega)
    have hwb:IntKind.i64.wrap (un+(S:Int))=un+(S:Int):=IntWalk.i64_in _ (by omega)
    have hwc:IntKind.i64.wrap (st+(S:Int))=st+(S:Int):=IntWalk.i64_in _ (by omega)
    have hwS:IntKind.i64.wrap (S:Int)=(S:Int):=IntWalk.i64_in _ (by omega)
    have hwu:IntKind.i64.wrap un=un:=IntWalk.i64_in _ (by omega)
    have HMX2:(if e1<st+(S:Int) then st+(S:Int) else e1)=en:=by
     rw[hen2]
     by_cases e:e1<st+(S:Int)
     ·
      rw[if_pos e];omega
     ·
      rw[if_neg e];omega
    have hen4:en≤4400000000:=by omega
    have hst0:0≤st:=hsf.1
    have hNN:(N:Int)≤(N:Int)*S:=by
     have:=Int.mul_le_mul_of_nonneg_left hS1 (show (0:Int)≤(N:Int) by omega)
     rw[Int.mul_one] at this
     exact this
    have hNi:(N:Int)≤4400000000:=by omega
    have HST:=Lib.hid (And.intro hst (And.intro hS (And.intro hN hix)))
    have HSM:=Lib.hid hm1e
    have HEN:=Lib.hid hen2.symm
    have HHAS:=Lib.hid (fun W (gW:Gr w3 W) (x:Int) (hx0:0≤x) (hx:x≤4611686018427387904)=>whas_any q hqm x hx0 hx W (HF3.out.gr gW))
    obtain ⟨ar0,ar1⟩:=HAR.out q hqm wc HGX.out
    rw[←hS] at ar0
    have yx2:=(HF3.out.gr HGX.out).x2
    have VL:∃VL,VL=valsS m D q st N:=⟨_,rfl⟩
    obtain ⟨VL,hVL⟩:=VL
    have hVl:VL.length=N:=by rw[hVL];unfold valsS;rw[List.length_map,List.length_range]
    have hVq:∀j (hj:j<VL.length),VL[j]=hasV m D q (st+j*S):=fun j hj=>by
     subst hVL
     simp only[valsS,List.getElem_map,List.getElem_range]
     rw[hS]
    have HVL:=Lib.hid (And.intro hVL (And.intro hVl hVq))
    have hNZ:(N:Int)*16≤140737488355328:=by omega
    clear hs1 hst hS hN hix hal hal2 hal3 hst2 hen hen2 hsf hef he1 hm1e hVL hVl hVq hqi hNN ar1
    go_upto_region 15 with (go_at_call 74;refine (HAL.out _).mono ?_;rintro e w6 ⟨rfl,rfl⟩)
    obtain ⟨W7,hW7⟩:∃W7,W7=wc.alloc (.cells #[.string nmA, .int .i64 st, .int .i64 S, .slice none 0 0, .int .i64 0] 89):=⟨_,rfl⟩
    have g7:Gr wc W7:=by rw[hW7];exact Gr.alloc (Gr.refl wc) _
    have hz7:wc.heap.size<W7.heap.size:=by rw[hW7];simp
    have hsr:SrB W7 wc.heap.size st S (.slice none 0 0):=⟨by rw[hW7];go_simp,by rw[hW7];go_simp,by rw[hW7];go_simp,by rw[hW7];go_simp,by rw[hW7];go_simp,by rw[hW7];go_simp,hz7⟩
    have d1:=hsr.c1
    have HG7:=Lib.hid g7
    have HSR:=Lib.hid hsr
    rw[←hW7]
    clear hW7 g7 hsr ar0 yx2
    refine region_Q (by kernel_rfl) (by kernel_rfl) ?_
    iterate 4 (refine qv ?_;simp only[Pu])
    refine q_call (v:= .int .i64 e1) (f:=?qf5) (args:=?qa5) (by rfl) (fun W hW=>?qh5) (fun W hW=>?qc5) ?qr5
    case qh5=>go_simp;constructor<;>rfl
    case qc5=>exact (HAL2.out W).mono (fun e w' h=>⟨h.1,Gr.trans hW h.2⟩)
    simp only[Pu]
    refine qv ?_;simp only[Pu]
    refine q_val (v:=?qv7) (by rfl) (fun W hW=>?qh7) ?qr7
    case qh7=>have y1:=(Below.cell hW (p:=⟨wc.heap.size,1,none⟩) hz7).trans d1;go_simp;rfl
    simp only[Pu]
    iterate 4 (refine qv ?_;simp only[Pu])
    refine wpQuiet_nil ?_
    intro W8 g8
    try simp only[HMX2]
    have HG8:=Lib.hid (HG7.out.trans g8)
    have HSR8:=Lib.hid (HSR.out.kp (Kp.of_gr (fun _=>False) g8) (fun e=>e))
    have d1:=HSR8.out.c1
    have hz8:=HSR8.out.lt
    have hzw:w.heap.size<wc.heap.size:=Nat.lt_of_lt_of_le hz1 (HG3.out.trans HGX.out).size
    obtain ⟨sb,hsb⟩:∃sb,sb=wc.heap.size:=⟨_,rfl⟩
    rw[←hsb] at HSR8 d1 hz8 hzw ⊢
    have HSB:=Lib.hid hsb
    have HSEP:Hid (w3.heap.size≤sb):=Lib.hid (by rw[hsb];exact HGX.out.size)
    clear g8 HAL HAL2 HSR hsb hz7 HMX2
    go_upto_region 16 with (fail)
    try rw[HEN.out]
    have HGW8:=Lib.hid (HGX.out.trans HG8.out)
    clear d1
    have d1:=HSR8.out.c1
    go_wp2
    go_loopw [19] (fun x wr=>∃(j:Nat) (vv:Value),j≤N∧x= .int .i64 (st+(j:Int)*S)∧Kp (fun k=>k=sb) W8 wr∧SrB wr sb st S vv∧wr.ownsRow W8.heap.size 107 2 vv j (vcells (VL.take j))) (fun x _=>(en-intOf x).toNat)
    case atStart=>exact ⟨0, .slice none 0 0,Nat.zero_le _,by go_num,Kp.refl _ _,HSR8.out,World.ownsRow_nil _ _ _ _⟩
    case round=>
     obtain ⟨j,vv,hj,rfl,hkp,hsr,hown⟩:=hrel
     obtain ⟨y,hy⟩:∃y:Int,y=st+(j:Int)*S:=⟨_,rfl⟩
     have hjS:(j:Int)*S≤(N:Int)*S:=Int.mul_le_mul_of_nonneg_right (by omega) (by omega)
     have hj0:0≤(j:Int)*S:=Int.mul_nonneg (by omega) (by omega)
     have hsm:=HSM.out
     rw[←hy]
     have hy0:0≤y:=by omega
     have hye:y≤en:=by omega
     by_cases hlt:j<N
     ·
      have hj1:((j:Int)+1)*S≤(N:Int)*S:=Int.mul_le_mul_of_nonneg_right (by omega) (by omega)
      rw[Int.add_mul,Int.one_mul] at hj1
      have hyl:y<en:=by omega
      have hyS:y+S≤en:=by omega
      have hwy:IntKind.i64.wrap (y+(S:Int))=y+(S:Int):=IntWalk.i64_in _ (by omega)
      have hyn:y+(S:Int)=st+((j+1:Nat):Int)*S:=by rw[hy];simp only[Int.natCast_add,Int.add_mul];omega
      have hjl:j<VL.length:=by rw[HVL.out.2.1];exact hlt
      obtain ⟨u,hu⟩:∃u,u=VL[j]:=⟨_,rfl⟩
      have huh:hasV m D q y=u:=by rw[hu,HVL.out.2.2 j hjl,hy]
      have HT:=Lib.hid (show VL.take (j+1)=VL.take j++[u] by rw[List.take_succ_eq_append_getElem hjl,hu])
      have HYN:=Lib.hid hyn
      have HJ:=Lib.hid (And.intro hlt (And.intro hyS hyl))
      have hz8r:=hkp.size
      have hnT:¬vv.ownBlock=some sb:=fun e=>by have:=(hown.lt sb e).1;omega
      have SR:=Lib.hid (And.intro hsr hnT)
      have HKP:=Lib.hid hkp
      have HOW:=Lib.hid hown
      have HH:Hid (∀W,Gr wr W→Calls Tryz.prog 75 #[.pointer (some ⟨X,0,none⟩), .int .i64 q, .int .i64 y] W (RetVl u W)):=Lib.hid fun W gW=>by rw[←huh];exact whas_any q HPR.out.2.2 y hy0 (by omega) W ((HF3.out.gr (gr_over HGW8.out hkp HSEP.out)).gr gW)
      have hji:(j:Int)+1≤4400000000:=by omega
      have HYY:=Lib.hid hy
      clear hjS hj0 hsm hj1 hyn huh hu hkp hsr hown hj hnT hy
      go_upto_region 19 with (fail)
      refine wp_region_Z 9 (Kp (fun k=>vv.ownBlock=some k) wr) (by kernel_rfl) ?_
      have gr0:Gr wr wr.drew:=Gr.drew (Gr.refl _)
      obtain ⟨W9,hW9⟩:∃W9,W9=wr.drew:=⟨_,rfl⟩
      rw[←hW9] at gr0 ⊢
      clear hW9
      have hS0:Kp (fun k=>vv.ownBlock=some k) wr W9:=Kp.of_gr _ gr0
      refine zu 0 rfl hS0 (fun W hS=>by go_simp;rfl) ?_
      refine zu 1 rfl hS0 (fun W hS=>by have y0:=SrB.c3K SR.out hS;go_simp;rfl) ?_
      refine zu 2 rfl hS0 (fun W hS=>by go_simp;rfl) ?_
      refine zu 3 rfl hS0 (fun W hS=>by go_simp;rfl) ?_
      refine zu 4 rfl hS0 (fun W hS=>by go_simp;rfl) ?_
      have HS0:=Lib.hid hS0
      refine wpAnyZ_ready (rs:=[5]) (by kernel_rfl) (by simp) ?_
      refine AllReadyZ.cons (i:=5) rfl (by kernel_rfl) ?zx1 AllReadyZ.nil
      intro K hK
      simp only[List.getElem_toArray,List.getElem_cons_succ,List.getElem_cons_zero]
      go_simp
      refine (HH.out _ gr0).mono ?_
      rintro e V5 ⟨rfl,k5⟩
      have gr5:=gr0.trans k5
      have hown5:=own_grU HOW.out gr5
      clear k5 hS0
      go_wp2_with fail
      refine hK.out _ _ (fun hnz=>?zs2) (fun _=>?zr3)
      case zs2=>exact Kp.of_gr _ gr5
      clear hK K
      try (simp only[Pu,List.getElem_toArray,List.getElem_cons_succ,List.getElem_cons_zero])
      refine wpAnyZ_ready (rs:=[6]) (by kernel_rfl) (by simp) ?_
      refine AllReadyZ.cons (i:=6) rfl (by kernel_rfl) ?zx4 AllReadyZ.nil
      intro K hK
      simp only[List.getElem_toArray,List.getElem_cons_succ,List.getElem_cons_zero]
      go_simp
      obtain ⟨V6,hV6⟩:∃V6,V6=V5.alloc (.cells #[.bool u.ok, .int .i64 u.n] 107):=⟨_,rfl⟩
      have g6:Gr V5 V6:=by rw[hV6];exact Gr.alloc (Gr.refl _) _
      have hrx:Rv V6 (some ⟨V5.heap.size,0,none⟩) [u]:=by rw[hV6];exact Rv.new rfl 107 [u]
      rw[←hV6]
      clear hV6
      have gr6:=gr5.trans g6
      have hown6:=own_grU hown5 g6
      have hz6:=gr6.size
      clear hown5 g6
      refine hK.out _ _ (fun hnz=>?zs5) (fun _=>?zr6)
      case zs5=>exact Kp.of_gr _ gr6
      clear hK K
      try (simp only[Pu,List.getElem_toArray,List.getElem_cons_succ,List.getElem_cons_zero])
      refine wpAnyZ_ready (rs:=[7]) (by kernel_rfl) (by simp) ?_
      refine AllReadyZ.cons (i:=7) rfl (by kernel_rfl) ?zx7 AllReadyZ.nil
      intro K hK
      simp only[List.getElem_toArray,List.getElem_cons_succ,List.getElem_cons_zero]
      refine wp_append_rd0 (.tmp 139) (.tmp 144) 87 rfl W8.heap.size 107 v0 _ 2 16 Tryz.underlying87 hv0 vz0 vz1 vz2 rfl (by decide) vv j (vcells (VL.take j)) rfl hown6 (some ⟨V5.heap.size,0,none⟩) 1 1 (vcells [u]) rfl hrx (vcells_one _) (by unfold maxLen;omega) (by omega) (by omega) ?_
      intro v' w7 hown7 hgr7 hat7
      have kp7:Kp (fun k=>vv.ownBlock=some k) wr w7:=(Kp.of_gr (fun k=>vv.ownBlock=some k) gr6).grown hgr7 (fun k e=> .inl e)
      have sr7:=SR.out.1.kp kp7 SR.out.2
      rw[←vcells_append,←HT.out] at hown7
      obtain ⟨A7,c7,hv7⟩:=own_form hown7
      subst hv7
      clear hown6 hgr7 hat7 hrx gr6 gr5 gr0
      refine hK.out _ _ (fun hnz=>?zs8) (fun _=>?zr9)
      case zs8=>exact kp7
      clear hK K
      try (simp only[Pu,List.getElem_toArray,List.getElem_cons_succ,List.getElem_cons_zero])
      refine wpAnyZ_ready (rs:=[8]) (by kernel_rfl) (by simp) ?_
      refine AllReadyZ.cons (i:=8) rfl (by kernel_rfl) ?zx10 AllReadyZ.nil
      intro K hK
      simp only[List.getElem_toArray,List.getElem_cons_succ,List.getElem_cons_zero]
      go_wp2_with fail
      refine hK.out _ _ (fun hnz=>?zs11) (fun _=>?zr12)
      case zs11=>exact kp7
      clear hK K
      try (simp only[Pu,List.getElem_toArray,List.getElem_cons_succ,List.getElem_cons_zero])
      have y3:=sr7.c3
      have yf:=sr7.f3
      have yl:=sr7.lt
      refine wpAnyZ_ready (rs:=[9]) (by kernel_rfl) (by simp) ?_
      refine AllReadyZ.cons (i:=9) rfl (by kernel_rfl) ?zx13 AllReadyZ.nil
      intro K hK
      simp only[List.getElem_toArray,List.getElem_cons_succ,List.getElem_cons_zero]
      go_simp
      refine hK.out _ _ (fun hnz=>?zs14) (fun _=>?zr15)
      case zs14=>exact absurd rfl hnz
      clear hK K
      try (simp only[Pu,List.getElem_toArray,List.getElem_cons_succ,List.getElem_cons_zero])
      refine wpAnyZ_done (by kernel_rfl) ?_ _
      have HF7:Hid (Kp (fun k=>k=sb) W8 (w7.setCell ⟨sb,3,none⟩ (.slice A7 (j+1) c7))∧SrB (w7.setCell ⟨sb,3,none⟩ (.slice A7 (j+1) c7)) sb st S (.slice A7 (j+1) c7)∧(w7.setCell ⟨sb,3,none⟩ (.slice A7 (j+1) c7)).ownsRow W8.heap.size 107 2 (.slice A7 (j+1) c7) (j+1) (vcells (VL.take (j+1)))):=Lib.hid ⟨(HKP.out.trans kp7 (fun i hi e=>by have:=(HOW.out.lt i e).1;omega)).set (p:=⟨sb,3,none⟩) (.inl (show sb=sb from rfl)) _,sr7.put _,own_setU hown7 (show sb<W8.heap.size from hz8) _⟩
      clear y3 yf yl kp7 sr7 hown7
      go_wp2
      go_roundw
      case rel=>exact ⟨j+1,_,HJ.out.1,by rw[HYN.out],HF7.out⟩
      case measure=>have:=HJ.out;simp[intOf];omega
     ·
      have hjN:j=N:=by omega
      subst hjN
      obtain ⟨A7,c7,hv7⟩:=own_form hown
      subst hv7
      have hrv:Rv wr A7 VL:=by
       have:=Rd.own hown
       rw[←HVL.out.2.1,List.take_length] at this
       exact this
      have hyN:¬y<en:=by omega
      have gwr:=gr_over HGW8.out hkp HSEP.out
      have hw3:w.heap.size<w3.heap.size:=Nat.lt_of_lt_of_le hz1 HG3.out.size
      have HZ:Hid (∀o,wr.cell? ⟨w.heap.size,o,none⟩=V.cell? ⟨w.heap.size,o,none⟩∧wr.frozen? ⟨w.heap.size,o,none⟩=false):=Lib.hid (fun o=>⟨(Below.cell ((H1.out.1.trans HG3.out).trans gwr) (p:=⟨w.heap.size,o,none⟩) HVZ.out.1).trans rfl,(Below.frozen ((H1.out.1.trans HG3.out).trans gwr) (p:=⟨w.heap.size,o,none⟩) HVZ.out.1).trans (HFZ.out o)⟩)
      have z0:=(HZ.out 0).1.trans HVZ.out.2.1
      have z1:=(HZ.out 1).1.trans HVZ.out.2.2.1
      have z2:=(HZ.out 2).1.trans HVZ.out.2.2.2.1
      have z3:=(HZ.out 3).1.trans HVZ.out.2.2.2.2.1
      have z4:=(HZ.out 4).1.trans HVZ.out.2.2.2.2.2
      have k0:=(HZ.out 0).2
      have k1:=(HZ.out 1).2
      have k2:=(HZ.out 2).2
      have k3:=(HZ.out 3).2
      have k4:=(HZ.out 4).2
      have d0:=hsr.c0
      have d2:=hsr.c2
      have d3:=hsr.c3
      have d4:=hsr.c4
      have d1':=hsr.c1
      have HRV:=Lib.hid (And.intro hrv (And.intro ((HGV.out.trans (H1.out.1.trans HG3.out)).trans gwr) (hown.lt)))
      have hzwr:=hkp.size
      have hwsb:w.heap.size<wr.heap.size:=by have:=hsr.lt;omega
      clear hrv gwr hown hkp hsr hj0 hjS hsm d1 hy
      go_wp2
      refine bodyPost_ret (v:= .tuple #[.agg #[.string nmA, .int .i64 st, .int .i64 S, .slice A7 j c7, .int .i64 0], .int .i64 0]) (by simp[results,Tryz.results36,go_sem, *]) rfl ?_
      have hq2:whichS m (now-frS m now frm)=q:=by rw[←HQ.out.1,HQ.out.2.2,HST.out.2.2.2]
      have hfe:fetV m D now frm unt=VL:=by unfold fetV;rw[hq2,←HQ.out.1,←HQ.out.2.1,←HST.out.1,←HST.out.2.2.1,←HVL.out.1]
      have K:Kp (fun k=>k=w.heap.size) wr (((((wr.setCell ⟨w.heap.size,0,none⟩ (.string nmA)).setCell ⟨w.heap.size,1,none⟩ (.int .i64 st)).setCell ⟨w.heap.size,2,none⟩ (.int .i64 S)).setCell ⟨w.heap.size,3,none⟩ (.slice A7 j c7)).setCell ⟨w.heap.size,4,none⟩ (.int .i64 0)):=(((((Kp.refl (fun k=>k=w.heap.size) wr).set (.inl rfl) _).set (.inl rfl) _).set (.inl rfl) _).set (.inl rfl) _).set (.inl rfl) _
      refine ⟨((((HRV.out.2.1.setCell (Nat.le_refl _) _).setCell (Nat.le_refl _) _).setCell (Nat.le_refl _) _).setCell (Nat.le_refl _) _).setCell (Nat.le_refl _) _,A7,c7,?_,?_⟩
      ·
       rw[hfe,hq2,←HQ.out.1,←HST.out.1,←HST.out.2.1,HVL.out.2.1]
      ·
       rw[hfe]
       exact K.rd HRV.out.1 (fun _ ad e=>by
        have:=(HRV.out.2.2 ad.block (by rw[e];rfl)).1
        have:=HGW8.out.size
        omega)
end Go.Proofs.YtoncapkmaeghfaaGreat
