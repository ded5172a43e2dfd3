import Derived.Test.YtoncapkmaeghfaaGreatRunLtCra
import Derived.Test.YtoncapkmaeghfaaGreatRunWiMay
import Derived.Test.YtoncapkmaeghfaaGreatRunRwDec
import Derived.Test.YtoncapkmaeghfaaGreatRunRwWri
import Derived.Test.YtoncapkmaeghfaaGreatRunFxBase
import Derived.Deep.Light
import Derived.Test.YtoncapkmaeghfaaGreatRunWiFet
import Derived.Test.YtoncapkmaeghfaaGreatRunWhHdr
import Derived.Test.YtoncapkmaeghfaaGreatRunRwInf
set_option linter.all false
set_option maxRecDepth 1000000
set_option maxHeartbeats 12800000
namespace Go.Proofs.YtoncapkmaeghfaaGreat
open Go.RowKit
theorem rb_sub {w:World} {ad:Addr} {D:List UInt8} (h:Rb w (some ad) D) {k:Nat} (hk:k+12≤D.length):Rb w (some (ad.add k)) (slotS D k):=by
 have hl:=slot_len hk
 refine ⟨by rw[bys_length],fun _=>?_⟩
 obtain ⟨ad2,e,hb,hc⟩:=h.2 (by omega)
 injection e with e
 subst e
 refine ⟨ad.add k,rfl,by rw[adB];exact hb,fun j u hu=>?_⟩
 have hj:j<12:=by
  rcases Nat.lt_or_ge j 12 with h1|h1
  ·
   exact h1
  ·
   rw[List.getElem?_eq_none (by rw[bys_length];omega)] at hu;cases hu
 rw[add_two]
 refine hc (k+j) u ?_
 rw[←hu]
 simp only[bys,slotS,List.getElem?_map,List.getElem?_take,List.getElem?_drop]
 rw[if_pos hj]
theorem slotsW_in (D1 D2:List UInt8):∀(q p:Nat) (x:Nat×List UInt8),x∈slotsW D1 D2 p q→x.1+x.2.length≤p+12*q
 | 0,_,x,h=>by simp[slotsW] at h
 | q+1,p,x,h=>by
  have hl:(slotS D2 p).length≤12:=by unfold slotS;rw[List.length_take];omega
  rw[slotsW] at h
  rcases List.mem_append.1 h with h|h
  ·
   unfold slotW at h
   split at h
   ·
    cases h
   ·
    simp only[List.mem_cons,List.not_mem_nil,or_false] at h
    rcases h with rfl|rfl|rfl
    ·
     show p+4≤_;omega
    ·
     simp only[List.length_drop];omega
    ·
     simp only[List.length_take];omega
  ·
   have:=slotsW_in D1 D2 q (p+12) x h
   omega
theorem own_blk {w:World} {base:Nat} {e:TypeId} {size n c:Nat} {ad:Addr} {xs:List Value} (h:w.ownsRow base e size (.slice (some ad) n c) n xs):(Value.slice (some ad) n c).ownBlock=some ad.block:=by
 obtain ⟨h1,⟨hv, -⟩|⟨g',cap,cur,hv, -⟩⟩:=h
 ·
  cases hv
 ·
  injection hv with hv _ _
  injection hv with hv
  subst hv
  rfl
theorem slotsW_snoc (D1 D2:List UInt8):∀(q p:Nat),slotsW D1 D2 p (q+1)=slotsW D1 D2 p q++slotW D1 D2 (p+12*q)
 | 0,p=>by simp[slotsW]
 | q+1,p=>by
  rw[slotsW,slotsW_snoc D1 D2 q (p+12),slotsW,List.append_assoc,show p+12+12*q=p+12*(q+1) by omega]
theorem torn_any {Y Y2:Nat→Prop} {F P M X Ms n2:Nat} {R2:Option Nat} {room2:Int} (ag xf:Nat) (A:Option Addr) (c:Nat) (m:Arcs) (hM:mayH ag xf (ints m)=true) (n k:Int) (hn0:0≤n) (hk0:0≤k) (hk:k≤12) (D1 D2:List UInt8) (Q:Nat) (hd1:D1.length=16+12*m.length+12*Q) (hd2:D2.length=D1.length) (hsz:D1.length≤3000) (ao:Addr) (co:Nat) (w:World) (hf:FsM Y w F P M none 65536 0 (some D1)) (hp:PnM w F P M none Ms D1 []) (zF:w.frozen? ⟨F,2,none⟩=false) (hx:RsM Y2 w X R2 room2 n2 (some D2)) (ho:Rb w (some ao) D1) (hob:ao.block≠P∧ao.block≠M∧ao.block<w.heap.size) (hco:D1.length≤co) (hr:Ri w A (ints m)) :
  Calls Tryz.prog 26 #[.pointer (some ⟨F,0,none⟩), .slice (some ao) D1.length co, .pointer (some ⟨X,0,none⟩), .agg #[.int .i64 ag, .int .i64 xf, .slice A m.length c], .int .i64 n, .int .i64 k] w fun e w'=>e= .returned (.pointer (some ⟨F,0,none⟩))∧∃M',w.heap.size≤M'∧FsM (fun _=>False) w' F P M' none 65536 0 (some (crashL (slotsW D1 D2 (16+12*m.length) Q) n.toNat k.toNat D1))∧Kp (fun q=>q=F∨q=P∨q=M) w w':=by
 obtain ⟨DD,hDD⟩:∃DD,DD=crashL (slotsW D1 D2 (16+12*m.length) Q) n.toNat k.toNat D1:=⟨_,rfl⟩
 rw[←hDD]
 have HDD:=Lib.hid hDD
 obtain ⟨V,hV⟩:∃V,V=w.alloc (.cells #[.int .i64 ag, .int .i64 xf, .slice A m.length c] 24):=⟨_,rfl⟩
 have gV:Gr w V:=by rw[hV];exact Gr.alloc (Gr.refl w) _
 have hz0:w.heap.size<V.heap.size:=by rw[hV];simp
 have c0:V.cell? ⟨w.heap.size,0,none⟩=some (.int .i64 ag):=by rw[hV];go_simp
 have c1:V.cell? ⟨w.heap.size,1,none⟩=some (.int .i64 xf):=by rw[hV];go_simp
 have c2:V.cell? ⟨w.heap.size,2,none⟩=some (.slice A m.length c):=by rw[hV];go_simp
 have HV:=Lib.hid hV
 have HGV:=Lib.hid gV
 have HFS:=Lib.hid (And.intro hf (And.intro hp zF))
 have nmA_eq:(⟨#[97]⟩:ByteArray)=nmA:=by kernel_rfl
 have hrd:=xread_all (l:=D2) (by omega) V (hx.gr gV)
 rw[hd2,←nmA_eq] at hrd
 have HRD:=Lib.hid hrd
 have HRI:=Lib.hid (hr.gr gV)
 have HO:=Lib.hid (And.intro ho hob)
 have hof:=fun W (hW:Ri W A (ints m))=>rhoff_any ag xf A c m hM 0 (MayF.ofH hM).l1 W hW
 rw[show offS m 0=16+12*m.length by unfold offS;simp] at hof
 obtain ⟨b,hb⟩:∃b,b=16+12*m.length:=⟨_,rfl⟩
 rw[←hb] at hof hd1 HDD
 have HB16:Hid (16≤b):=Lib.hid (by omega)
 have HOF:Hid (∀W,Ri W A (ints m)→Calls Tryz.prog 59 #[.agg #[.int .i64 ag, .int .i64 xf, .slice A m.length c], .int .i64 0] W fun e w'=>e= .returned (.int .i64 (b:Nat))∧Gr W w'):=Lib.hid hof
 have HLN:=Lib.hid (And.intro hd1 (And.intro hd2 hsz))
 have HNM:=Lib.hid nmA_eq
 clear nmA_eq
 have hszi:(D1.length:Int)≤3000:=by omega
 have hcoi:(D1.length:Int)≤(co:Int):=by omega
 clear hDD hV gV hf hp zF hrd hx hr ho hob hd1 hd2 hof hb hM
 go_enter Tryz.func26,Tryz.ntmps26
 go_upto_region 1 with (fail)
 rw[←HV.out]
 clear HV
 go_upto_region 3 with (first|(go_at_call 25;refine HRD.out.mono ?_;rintro e w1 ⟨An,cn,rfl,hcn,hon,g1⟩;have H1:=Lib.hid (And.intro hcn (And.intro hon g1));have d0:=(Below.cell g1 (p:=⟨w.heap.size,0,none⟩) hz0).trans c0;have d1:=(Below.cell g1 (p:=⟨w.heap.size,1,none⟩) hz0).trans c1;have d2:=(Below.cell g1 (p:=⟨w.heap.size,2,none⟩) hz0).trans c2;clear hcn hon g1)|(go_at_call 59;refine (HOF.out _ (HRI.out.gr H1.out.2.2)).mono ?_;rintro e w2 ⟨rfl,g2⟩;have H2:=Lib.hid (And.intro (H1.out.2.2.trans g2) (And.intro H1.out.1 (And.intro (Rb.own (own_grU H1.out.2.1 g2)) (own_grU H1.out.2.1 g2))));clear g2))
 clear c0 c1 c2 d0 d1 d2 hz0 HRD HRI HOF
 have hQi:(b:Int)+12*Q≤3000:=by have:=HLN.out.1;omega
 have hlen:(D1.length:Int)=(b:Int)+12*Q:=by have:=HLN.out.1;omega
 have HLE:=Lib.hid hlen
 clear hlen
 have HFS0:Hid (FsM (fun _=>False) w2 F P M none 65536 0 (some D1)∧PnM w2 F P M none Ms D1 []):=Lib.hid (by
  have g:=HGV.out.trans H2.out.1
  have h1:=HFS.out.1.gr g
  exact ⟨⟨h1.lf,h1.lp,h1.lm,h1.nfp,h1.nfm,h1.npm,h1.f0,h1.f1,h1.f2,h1.p0,h1.p1,h1.z0,h1.z1,h1.rr,fun _ e=>e.elim,by
   obtain ⟨clk,born,A,c,hb,hc,hr,hq⟩:=h1.mp
   exact ⟨clk,born,A,c,hb,hc,hr,hq.imp (fun _ _ hx=>⟨hx.1,hx.2.1,hx.2.2.1,fun e=>e⟩)⟩⟩,HFS.out.2.1.gr g HFS.out.1.lp⟩)
 by_cases hQ0:0<D2.length
 rotate_left
 ·
  exact absurd (show 0<D2.length by have:=HLN.out.1;have:=HLN.out.2.1;have:=HB16.out;omega) hQ0
 obtain ⟨an,rfl⟩:=Rb.some H2.out.2.2.1 hQ0
 go_wp2
 go_loopw [16] (fun i wr=>∃(q:Nat) (R:Option Nat) (cs:List Chg) (Dq:List UInt8),q≤Q∧i= .int .i64 ((b+12*q:Nat):Int)∧FsM (fun _=>False) wr F P M R 65536 cs.length (some Dq)∧PnM wr F P M R Ms D1 cs∧cs.map chgP=slotsW D1 D2 b q∧cs.length≤3*q∧Dq.length=D1.length∧Kp (fun q=>q=P∨q=M) w2 wr∧(∀i,R=some i→w2.heap.size≤i)) (fun i _=>(b+12*Q+12)-(intOf i).toNat)
 case atStart=>exact ⟨0,none,[],D1,Nat.zero_le _,rfl,HFS0.out.1,HFS0.out.2,rfl,Nat.le_refl _,rfl,Kp.refl _ _,fun i e=>by cases e⟩
 case round=>
  obtain ⟨q,R,cs,Dq,hq,rfl,hfs,hpn,hcs,hcl,hdq,hkp,hR⟩:=hrel
  obtain ⟨p,hp⟩:∃p,p=b+12*q:=⟨_,rfl⟩
  rw[←hp]
  have HP:=Lib.hid hp
  by_cases hlt:q<Q
  ·
   have HI:=Lib.hid (And.intro hfs (And.intro hpn (And.intro hcs (And.intro hcl (And.intro hdq (And.intro hkp (And.intro hR hlt)))))))
   clear hpn
   obtain ⟨p2,hp2⟩:∃p2:Nat,p2=p+12:=⟨_,rfl⟩
   have hw1:IntKind.i64.wrap ((p:Int)+12)=(p2:Int):=by rw[IntWalk.i64_in _ (by omega)];omega
   have hle:(p2:Int)≤(D1.length:Int):=by rw[HLE.out];omega
   have hpp:(p:Int)≤(p2:Int):=by omega
   have hpc:(p2:Int)≤(co:Int):=by omega
   have hpn:(p2:Int)≤(cn:Int):=by have:=H2.out.2.1;have:=HLN.out.2.1;omega
   have HP2:=Lib.hid hp2
   have n1:p2≤cn:=by omega
   have n2:p≤p2:=by omega
   have n3:¬cn=p:=by omega
   have n4:p2-p=12:=by omega
   have n5:p2≤co:=by omega
   have n6:¬co=p:=by omega
   have hro:Rb wr (some ao) D1:=hkp.rd ((HO.out.1.gr HGV.out).gr H2.out.1) (fun _ ad e=>by
    injection e with e
    subst e
    intro e
    rcases e with e|e
    ·
     exact HO.out.2.1 e
    ·
     exact HO.out.2.2.1 e)
   have hrn:Rb wr (some an) D2:=hkp.rd H2.out.2.2.1 (fun _ ad e=>by
    injection e with e
    subst e
    have h1:=HFS.out.1.lp
    have h2:=HFS.out.1.lm
    have h3:=(H2.out.2.2.2.lt an.block (own_blk H2.out.2.2.2)).1
    have h4:=HGV.out.size
    intro e
    rcases e with e|e<;>omega)
   have hso:=rb_sub hro (k:=p) (by have:=HLN.out.1;omega)
   have hsn:=rb_sub hrn (k:=p) (by have:=HLN.out.1;have:=HLN.out.2.1;omega)
   have l1:=slot_len (D:=D1) (p:=p) (by have:=HLN.out.1;omega)
   have l2:=slot_len (D:=D2) (p:=p) (by have:=HLN.out.1;have:=HLN.out.2.1;omega)
   have hcv1:∀W,Gr wr W→(convert 49 9 (.slice (some (ao.add p)) 12 (co-p))).run Tryz.prog W= .ok (.string ⟨(slotS D1 p).toArray⟩) W:=fun W g=>by
    have:=conv_bytes (c:=co-p) g hso
    rw[l1] at this
    exact this
   have hcv2:∀W,Gr wr W→(convert 49 9 (.slice (some (an.add p)) 12 (cn-p))).run Tryz.prog W= .ok (.string ⟨(slotS D2 p).toArray⟩) W:=fun W g=>by
    have:=conv_bytes (c:=cn-p) g hsn
    rw[l2] at this
    exact this
   obtain ⟨s1,hs1⟩:∃s1,s1=slotS D1 p:=⟨_,rfl⟩
   obtain ⟨s2,hs2⟩:∃s2,s2=slotS D2 p:=⟨_,rfl⟩
   rw[←hs1] at hso hcv1 l1
   rw[←hs2] at hsn hcv2 l2
   have HC:=Lib.hid (And.intro hcv1 hcv2)
   have HS:=Lib.hid (And.intro hs1 (And.intro hs2 (And.intro l1 (And.intro l2 (And.intro hso hsn)))))
   clear hcv1 hcv2 hs1 hs2 l1 l2 hso hsn hro hrn
   clear hp hp2 hfs hpn hcs hcl hdq hkp hR
   go_upto_region 6 with (fail)
   by_cases hse:s2=s1
   ·
    have hbe:(s2==s1)=true:=by rw[hse];exact beq_self_eq_true s1
    refine region_R (by kernel_rfl) (by kernel_rfl) ?_
    iterate 5 (refine rv ?_;simp only[Pu])
    refine r_val (v:=?qv6) (by kernel_rfl) (fun W hW=>?qh6) ?qr6
    case qh6=>have e0:=HC.out.2 W hW;go_light;go_simp;rfl
    simp only[Pu]
    iterate 5 (refine rv ?_;simp only[Pu])
    refine r_val (v:=?qv12) (by kernel_rfl) (fun W hW=>?qh12) ?qr12
    case qh12=>have e0:=HC.out.1 W hW;go_light;go_simp;rfl
    simp only[Pu]
    refine rv ?_;simp only[Pu]
    refine r_nil ?_
    intro w3 hw3
    have H3:=Lib.hid hw3
    clear hw3
    go_wp2
    go_roundw
    case rel=>
     refine ⟨q+1,R,cs,Dq,by omega,?_,HI.out.1.gr H3.out,HI.out.2.1.gr H3.out HI.out.1.lp,?_,by have:=HI.out.2.2.2.1;omega,HI.out.2.2.2.2.1,HI.out.2.2.2.2.2.1.trans (Kp.of_gr (fun _=>False) H3.out) (fun _ _ e=>e.elim),HI.out.2.2.2.2.2.2.1⟩
     ·
      have h1:=HP.out
      have h2:=HP2.out
      congr 1
      omega
     ·
      rw[slotsW_snoc,HI.out.2.2.1]
      unfold slotW
      rw[←HP.out,if_pos (by rw[←HS.out.1,←HS.out.2.1];exact hse),List.append_nil]
    case measure=>have h1:=HP.out;have h2:=HP2.out;simp[intOf];omega
   ·
    have hbe:(s2==s1)=false:=beq_eq_false_iff_ne.2 hse
    refine region_R (by kernel_rfl) (by kernel_rfl) ?_
    iterate 5 (refine rv ?_;simp only[Pu])
    refine r_val (v:=?qv19) (by kernel_rfl) (fun W hW=>?qh19) ?qr19
    case qh19=>have e0:=HC.out.2 W hW;go_light;go_simp;rfl
    simp only[Pu]
    iterate 5 (refine rv ?_;simp only[Pu])
    refine r_val (v:=?qv25) (by kernel_rfl) (fun W hW=>?qh25) ?qr25
    case qh25=>have e0:=HC.out.1 W hW;go_light;go_simp;rfl
    simp only[Pu]
    refine rv ?_;simp only[Pu]
    refine r_nil ?_
    intro w3 hw3
    have H3:=Lib.hid hw3
    have hde:∀W,Gr wr W→Calls Tryz.prog 60 #[.slice (some (an.add p)) 12 (cn-p)] W (RetPt true (decT s2) (decN s2) W):=fun W g=>by
     have:=xdec_any (some (an.add p)) (cn-p) s2 HS.out.2.2.2.1 (by omega) W (HS.out.2.2.2.2.2.gr g)
     rw[HS.out.2.2.2.1] at this
     exact this
    have HDE:=Lib.hid hde
    have hdr:=decN_range HS.out.2.2.2.1
    have hwb:=wr_back HS.out.2.2.2.1
    obtain ⟨t,ht⟩:∃t,t=decT s2:=⟨_,rfl⟩
    obtain ⟨v,hv⟩:∃v,v=decN s2:=⟨_,rfl⟩
    rw[←ht,←hv] at HDE hwb
    rw[←hv] at hdr
    have HWB:=Lib.hid hwb
    have HDR:=Lib.hid hdr
    clear hw3 hde hwb hdr ht hv
    go_upto_region 8 with (go_at_call 60;refine (HDE.out _ H3.out).mono ?_;rintro e w4 ⟨rfl,g4⟩;have H4:=Lib.hid (H3.out.trans g4);clear g4)
    obtain ⟨V4,hV4⟩:∃V4,V4=w4.alloc (.cells #[.int .i64 t, .int .i64 v] 54):=⟨_,rfl⟩
    have gV4:Gr w4 V4:=by rw[hV4];exact Gr.alloc (Gr.refl w4) _
    have b0:V4.cell? ⟨w4.heap.size,0,none⟩=some (.int .i64 t):=by rw[hV4];go_simp
    have b1:V4.cell? ⟨w4.heap.size,1,none⟩=some (.int .i64 v):=by rw[hV4];go_simp
    have hz4:w4.heap.size<V4.heap.size:=by rw[hV4];simp
    have HV4:=Lib.hid hV4
    have HG4:=Lib.hid (H4.out.trans gV4)
    rw[←HV4.out]
    have HWR:=Lib.hid (xwri_any t v HDR.out.1 HDR.out.2 V4)
    clear hV4 gV4
    go_upto_region 9 with (go_at_call 61;refine HWR.out.mono ?_;rintro e w5 ⟨B,A0,A1,A2,k1,k2,rfl,⟨⟨q0,q1,q2,q3⟩,q4⟩,hr0,hr1,hr2,g5⟩;have H5:=Lib.hid (And.intro (HG4.out.trans g5) (And.intro q4 (And.intro g5 q3)));have HB0:=Lib.hid hr0;have HB1:=Lib.hid hr1;have HB2:=Lib.hid hr2;clear q4 hr0 hr1 hr2 g5)
    clear b0 b1 hz4
    rw[HWB.out.2] at HB1
    rw[HWB.out.1] at HB2
    obtain ⟨a0,rfl⟩:=Rb.some HB0.out.1 (by decide)
    obtain ⟨a1,rfl⟩:=Rb.some HB1.out.1 (by rw[List.length_drop,HS.out.2.2.2.1];decide)
    obtain ⟨a2,rfl⟩:=Rb.some HB2.out.1 (by rw[List.length_take,HS.out.2.2.2.1];decide)
    have HLW:Hid (z4.length=4∧(s2.drop 4).length=8∧(s2.take 4).length=4):=Lib.hid ⟨rfl,by rw[List.length_drop,HS.out.2.2.2.1],by rw[List.length_take,HS.out.2.2.2.1];rfl⟩
    have hD1p:p+12≤D1.length:=by have:=HP2.out;omega
    have hcs3:cs.length≤3000:=by have:=HI.out.2.2.2.1;omega
    have HQ1:Hid (FsM (fun _=>False) w5 F P M R 65536 cs.length (some Dq)∧PnM w5 F P M R Ms D1 cs∧Dq.length=D1.length):=Lib.hid ⟨HI.out.1.gr H5.out.1,HI.out.2.1.gr H5.out.1 HI.out.1.lp,HI.out.2.2.2.2.1⟩
    have HCS1:Hid (cs.length≤3000):=Lib.hid hcs3
    have HR1:Hid (Rb w5 (some a0) z4):=Lib.hid HB0.out.1

    have lRw:∀i,R=some i→i<wr.heap.size:=fun i e=>by
     obtain ⟨v9,xs9,x1,x2,x3⟩:=HI.out.1.p0
     exact (x3.lt i (by rw[x2];exact e)).2
    have HNT:Hid (∀(R9:Option Nat) i,(∀x,R9=some x→R=some x∨w5.heap.size≤x)→V4.heap.size≤i→i<w5.heap.size→¬Tch P M R9 i):=Lib.hid (fun R9 i h9 h1 h2 e=>by
     have l1:=HI.out.1.lp
     have l2:=HI.out.1.lm
     have l3:=HG4.out.size
     rcases e with e|e|e
     ·
      omega
     ·
      omega
     ·
      rcases h9 i e with e2|e2
      ·
       have:=lRw i e2;omega
      ·
       omega)
    obtain ⟨V1,hV1⟩:∃V1,V1=w5.alloc (.cells #[.slice (some a0) 4 4] 49):=⟨_,rfl⟩
    have gV1:Gr w5 V1:=by rw[hV1];exact Gr.alloc (Gr.refl w5) _
    have hcell1:V1.cell? ⟨w5.heap.size,0,none⟩=some (.slice (some a0) 4 4):=by rw[hV1];go_simp
    have hpts1:Pts V1 w5.heap.size [z4]:=fun k9 hk9=>by
     have e0:k9=0:=by simp at hk9;omega
     subst e0
     exact ⟨a0,4,by rw[hcell1];exact congrArg (fun z=>some (Value.slice (some a0) z 4)) (HLW.out.1).symm,HR1.out.gr gV1⟩
    have hwa1:=writeAt_pnd (Y:=fun _=>False) Dq (z4) (p) w5.heap.size 1 (by rw[HQ1.out.2.2];omega) (by rw[HLW.out.1];decide) (by rw[HQ1.out.2.2,HLW.out.1];omega) (by have:=HCS1.out;omega) V1 (HQ1.out.1.gr gV1) (HQ1.out.2.1.gr gV1 HQ1.out.1.lp) hpts1
    rw[←HNM.out] at hwa1
    have HWA1:=Lib.hid hwa1
    have HV1:=Lib.hid hV1
    have HG1:=Lib.hid gV1
    clear hV1 gV1 hcell1 hpts1 hwa1
    go_upto_region 10 with (go_at_call 62;rw[←HV1.out];refine HWA1.out.mono ?_;rintro e w6 ⟨rfl,R1,g1,d1,hf6,hp6,hk6,hR6⟩;have H6:=Lib.hid (And.intro hf6 (And.intro hp6 (And.intro hk6 hR6)));have HK1:=Lib.hid ((Kp.of_gr (fun i=>¬V4.heap.size≤i) HG1.out).trans hk6 (fun i hi e h=>HNT.out R i (fun x e=> .inl e) h hi e));have q1':=(HK1.out.cell (a:=⟨B,1,none⟩) H5.out.2.2.2 (fun e=>e H5.out.2.1)).trans q1;clear hf6 hp6 hk6 hR6)
    have hB6:B<w6.heap.size:=Nat.lt_of_lt_of_le H5.out.2.2.2 HK1.out.size
    obtain ⟨c1s,hc1s⟩:∃c1s,c1s=cs++[⟨p,z4,g1,d1⟩]:=⟨_,rfl⟩
    have hl1:c1s.length=cs.length+1:=by rw[hc1s];simp
    have hm1:c1s.map chgP=cs.map chgP++[(p,z4)]:=by rw[hc1s];simp[chgP]
    obtain ⟨D1q,hD1q⟩:∃D1q,D1q=putB Dq p z4:=⟨_,rfl⟩
    have hlq1:D1q.length=D1.length:=by rw[hD1q,putB_len (by rw[HQ1.out.2.2,HLW.out.1];omega)];exact HQ1.out.2.2
    rw[←hc1s,←hD1q,←hl1] at H6
    have HQ2:Hid (FsM (fun _=>False) w6 F P M R1 65536 c1s.length (some D1q)∧PnM w6 F P M R1 Ms D1 c1s∧D1q.length=D1.length):=Lib.hid ⟨H6.out.1,H6.out.2.1,hlq1⟩
    have HCS2:Hid (c1s.length≤3001):=Lib.hid (by omega)
    have HM1:=Lib.hid (And.intro hl1 hm1)
    have HR2:Hid (Rb w6 (some a1) (s2.drop 4)):=Lib.hid (HK1.out.rd HB1.out.1 (fun _ ad e=>by injection e with e;subst e;exact fun e=>e (HB1.out.2 _ rfl)))
    have hRR1:∀x,R1=some x→R=some x∨w5.heap.size≤x:=fun x e=>(H6.out.2.2.2 x e).imp (fun e=>e) (fun e=>Nat.le_trans HG1.out.size e)
    have HRR1:=Lib.hid hRR1
    have HQC:=Lib.hid q2
    clear hc1s hl1 hm1 hD1q hlq1 hRR1 q0 q1 q2 q3
    have hp4:IntKind.i64.wrap ((p:Int)+4)=((p+4:Nat):Int):=by rw[IntWalk.i64_in _ (by omega)];omega
    obtain ⟨V2,hV2⟩:∃V2,V2=w6.alloc (.cells #[.slice (some a1) 8 k1] 49):=⟨_,rfl⟩
    have gV2:Gr w6 V2:=by rw[hV2];exact Gr.alloc (Gr.refl w6) _
    have hcell2:V2.cell? ⟨w6.heap.size,0,none⟩=some (.slice (some a1) 8 k1):=by rw[hV2];go_simp
    have hpts2:Pts V2 w6.heap.size [s2.drop 4]:=fun k9 hk9=>by
     have e0:k9=0:=by simp at hk9;omega
     subst e0
     exact ⟨a1,k1,by rw[hcell2];exact congrArg (fun z=>some (Value.slice (some a1) z k1)) (HLW.out.2.1).symm,HR2.out.gr gV2⟩
    have hwa2:=writeAt_pnd (Y:=fun _=>False) D1q (s2.drop 4) (p+4) w6.heap.size 1 (by rw[HQ2.out.2.2];omega) (by rw[HLW.out.2.1];decide) (by rw[HQ2.out.2.2,HLW.out.2.1];omega) (by have:=HCS2.out;omega) V2 (HQ2.out.1.gr gV2) (HQ2.out.2.1.gr gV2 HQ2.out.1.lp) hpts2
    rw[←HNM.out] at hwa2
    have HWA2:=Lib.hid hwa2
    have HV2:=Lib.hid hV2
    have HG2:=Lib.hid gV2
    clear hV2 gV2 hcell2 hpts2 hwa2
    go_upto_region 11 with (go_at_call 62;rw[←HV2.out];refine HWA2.out.mono ?_;rintro e w7 ⟨rfl,R2q,g2,d2,hf7,hp7,hk7,hR7⟩;have H7:=Lib.hid (And.intro hf7 (And.intro hp7 (And.intro hk7 hR7)));have HK2:=Lib.hid ((HK1.out.trans (Kp.of_gr (fun _=>False) HG2.out) (fun _ _ e=>e.elim)).trans hk7 (fun i hi e h=>HNT.out R1 i HRR1.out h hi e));have q2'':=(HK2.out.cell (a:=⟨B,2,none⟩) H5.out.2.2.2 (fun e=>e H5.out.2.1)).trans HQC.out;clear hf7 hp7 hk7 hR7)
    have hB7:B<w7.heap.size:=Nat.lt_of_lt_of_le H5.out.2.2.2 HK2.out.size
    obtain ⟨c2s,hc2s⟩:∃c2s,c2s=c1s++[⟨p+4,s2.drop 4,g2,d2⟩]:=⟨_,rfl⟩
    have hl2:c2s.length=c1s.length+1:=by rw[hc2s];simp
    have hm2:c2s.map chgP=c1s.map chgP++[(p+4,s2.drop 4)]:=by rw[hc2s];simp[chgP]
    obtain ⟨D2q,hD2q⟩:∃D2q,D2q=putB D1q (p+4) (s2.drop 4):=⟨_,rfl⟩
    have hlq2:D2q.length=D1.length:=by rw[hD2q,putB_len (by rw[HQ2.out.2.2,HLW.out.2.1];omega)];exact HQ2.out.2.2
    rw[←hc2s,←hD2q,←hl2] at H7
    have HQ3:Hid (FsM (fun _=>False) w7 F P M R2q 65536 c2s.length (some D2q)∧PnM w7 F P M R2q Ms D1 c2s∧D2q.length=D1.length):=Lib.hid ⟨H7.out.1,H7.out.2.1,hlq2⟩
    have HCS3:Hid (c2s.length≤3002):=Lib.hid (by have:=HCS2.out;omega)
    have HM2:=Lib.hid (And.intro hl2 hm2)
    have HR3:Hid (Rb w7 (some a2) (s2.take 4)):=Lib.hid (HK2.out.rd HB2.out.1 (fun _ ad e=>by injection e with e;subst e;exact fun e=>e (HB2.out.2 _ rfl)))
    have hRR2:∀x,R2q=some x→R=some x∨w5.heap.size≤x:=fun x e=>(H7.out.2.2.2 x e).elim (fun e=>HRR1.out x e) (fun e=> .inr (Nat.le_trans HK1.out.size (Nat.le_trans HG2.out.size e)))
    have HRR2:=Lib.hid hRR2
    clear hc2s hl2 hm2 hD2q hlq2 hRR2
    obtain ⟨V3,hV3⟩:∃V3,V3=w7.alloc (.cells #[.slice (some a2) 4 k2] 49):=⟨_,rfl⟩
    have gV3:Gr w7 V3:=by rw[hV3];exact Gr.alloc (Gr.refl w7) _
    have hcell3:V3.cell? ⟨w7.heap.size,0,none⟩=some (.slice (some a2) 4 k2):=by rw[hV3];go_simp
    have hpts3:Pts V3 w7.heap.size [s2.take 4]:=fun k9 hk9=>by
     have e0:k9=0:=by simp at hk9;omega
     subst e0
     exact ⟨a2,k2,by rw[hcell3];exact congrArg (fun z=>some (Value.slice (some a2) z k2)) (HLW.out.2.2).symm,HR3.out.gr gV3⟩
    have hwa3:=writeAt_pnd (Y:=fun _=>False) D2q (s2.take 4) (p) w7.heap.size 1 (by rw[HQ3.out.2.2];omega) (by rw[HLW.out.2.2];decide) (by rw[HQ3.out.2.2,HLW.out.2.2];omega) (by have:=HCS3.out;omega) V3 (HQ3.out.1.gr gV3) (HQ3.out.2.1.gr gV3 HQ3.out.1.lp) hpts3
    rw[←HNM.out] at hwa3
    have HWA3:=Lib.hid hwa3
    have HV3:=Lib.hid hV3
    have HG3:=Lib.hid gV3
    clear hV3 gV3 hcell3 hpts3 hwa3
    go_wp2_with (go_at_call 62;rw[←HV3.out];refine HWA3.out.mono ?_;rintro e w8 ⟨rfl,R3q,g3,d3,hf8,hp8,hk8,hR8⟩;have H8:=Lib.hid (And.intro hf8 (And.intro hp8 (And.intro hk8 hR8)));clear hf8 hp8 hk8 hR8)
    go_roundw
    case rel=>
     have hR5:∀x,R3q=some x→w2.heap.size≤x:=fun x e=>by
      have l1:=HI.out.2.2.2.2.2.1.size
      have l2:=H5.out.1.size
      have l3:=HK2.out.size
      have l4:=HG3.out.size
      rcases H8.out.2.2.2 x e with e2|e2
      ·
       rcases HRR2.out x e2 with e3|e3
       ·
        exact HI.out.2.2.2.2.2.2.1 x e3
       ·
        omega
      ·
       omega
     refine ⟨q+1,R3q,c2s++[⟨p,s2.take 4,g3,d3⟩],putB D2q p (s2.take 4),by omega,?_,by rw[List.length_append];exact H8.out.1,H8.out.2.1,?_,?_,?_,?_,hR5⟩
     ·
      have h1:=HP.out
      have h2:=HP2.out
      congr 1
      omega
     ·
      rw[slotsW_snoc,List.map_append,HM2.out.2,HM1.out.2,HI.out.2.2.1]
      unfold slotW
      rw[←HP.out,if_neg (by rw[←HS.out.1,←HS.out.2.1];exact hse),←HS.out.2.1]
      simp[chgP]
     ·
      have h1:=HM1.out.1
      have h2:=HM2.out.1
      have h3:=HI.out.2.2.2.1
      simp
      omega
     ·
      rw[putB_len (by rw[HQ3.out.2.2,HLW.out.2.2];omega)]
      exact HQ3.out.2.2
     ·
      have kk:∀(Ra:Option Nat) (a b:World),(∀x,Ra=some x→R=some x∨w5.heap.size≤x)→w2.heap.size≤a.heap.size→Kp (Tch P M Ra) a b→∀i,i<w2.heap.size→Tch P M Ra i→i=P∨i=M:=fun Ra a b h9 _ _ i hi e=>by
       rcases e with e|e|e
       ·
        exact .inl e
       ·
        exact .inr e
       ·
        have l1:=HI.out.2.2.2.2.2.1.size
        have l2:=H5.out.1.size
        rcases h9 i e with e2|e2
        ·
         have:=HI.out.2.2.2.2.2.2.1 i e2;omega
        ·
         omega
      exact ((((((HI.out.2.2.2.2.2.1.trans (Kp.of_gr (fun _=>False) (H5.out.1.trans HG1.out)) (fun _ _ e=>e.elim)).trans H6.out.2.2.1 (fun i hi e=>kk R V1 w6 (fun x e=> .inl e) (Nat.le_trans HI.out.2.2.2.2.2.1.size (Nat.le_trans H5.out.1.size HG1.out.size)) H6.out.2.2.1 i hi e)).trans (Kp.of_gr (fun _=>False) HG2.out) (fun _ _ e=>e.elim)).trans H7.out.2.2.1 (fun i hi e=>kk R1 V2 w7 HRR1.out (Nat.le_trans HI.out.2.2.2.2.2.1.size (Nat.le_trans H5.out.1.size (Nat.le_trans HK1.out.size HG2.out.size))) H7.out.2.2.1 i hi e)).trans (Kp.of_gr (fun _=>False) HG3.out) (fun _ _ e=>e.elim)).trans H8.out.2.2.1 (fun i hi e=>kk R2q V3 w8 HRR2.out (Nat.le_trans HI.out.2.2.2.2.2.1.size (Nat.le_trans H5.out.1.size (Nat.le_trans HK2.out.size HG3.out.size))) H8.out.2.2.1 i hi e))
    case measure=>have h1:=HP.out;have h2:=HP2.out;simp[intOf];omega
  ·
   have hqe:q=Q:=by omega
   subst hqe
   have HI:=Lib.hid (And.intro hfs (And.intro hpn (And.intro hcs (And.intro hcl (And.intro hdq (And.intro hkp hR))))))
   obtain ⟨p2,hp2⟩:∃p2:Nat,p2=p+12:=⟨_,rfl⟩
   have hw1:IntKind.i64.wrap ((p:Int)+12)=(p2:Int):=by rw[IntWalk.i64_in _ (by omega)];omega
   have hle:¬(p2:Int)≤(D1.length:Int):=by rw[HLE.out];omega
   have hcr:=crash_any (l:=cs) n k hn0 hk0 (by omega) (fun c9 hc9=>by
    have hm:chgP c9∈slotsW D1 D2 b q:=by rw[←hcs];exact List.mem_map_of_mem hc9
    have:=slotsW_in D1 D2 q b _ hm
    simp only[chgP] at this
    have:=HLN.out.1
    omega) (by have:=HLN.out.1;have:=HB16.out;omega) (by omega) (by omega) wr hfs hpn ((hkp.frozen (a:=⟨F,2,none⟩) (Nat.lt_of_lt_of_le HFS.out.1.lf (HGV.out.trans H2.out.1).size) (fun e=>by
    rcases e with e|e
    ·
     exact HFS.out.1.nfp e
    ·
     exact HFS.out.1.nfm e)).trans ((Below.frozen (HGV.out.trans H2.out.1) (p:=⟨F,2,none⟩) HFS.out.1.lf).trans HFS.out.2.2))
   rw[hcs,←HDD.out] at hcr
   have HCR:=Lib.hid hcr
   clear hcr hfs hpn hcs hcl hdq hkp hR hp hp2
   go_wp2_with (go_at_call 63;refine HCR.out.mono ?_;rintro e w9 ⟨rfl,M9,hM9,hf9,hk9⟩;have H9:=Lib.hid (And.intro hM9 (And.intro hf9 hk9));clear hM9 hf9 hk9)
   go_ret
   have hsz9:=(HGV.out.trans H2.out.1).size
   refine ⟨rfl,M9,Nat.le_trans hsz9 (Nat.le_trans HI.out.2.2.2.2.2.1.size H9.out.1),H9.out.2.1,(((Kp.of_gr (fun q=>q=F∨q=P∨q=M) (HGV.out.trans H2.out.1)).trans HI.out.2.2.2.2.2.1 (fun _ _ e=> .inr e)).trans H9.out.2.2 (fun _ _ e=>?_))⟩
   rcases e with e|e
   ·
    exact .inl e
   ·
    exact .inr (.inl e)
theorem wring_any {Y:Nat→Prop} {F P M:Nat} {R:Option Nat} {room:Int} {n:Nat} {D:List UInt8} {ag xf:Nat} {m:Arcs} (hD:(D.length:Int)≤1073741824) (ho:opS D=some (ag,xf,m)) (i:Nat) (hi:i<m.length) (w:World) (h:FsM Y w F P M R room n (some D)):Calls Tryz.prog 27 #[.pointer (some ⟨F,0,none⟩), .string nmA, .int .i64 i] w (RetRg m D i w):=by
 obtain ⟨v0,hv0,vz0,vz1,vz2⟩:=info_parts info_point
 obtain ⟨-,hlen,hM⟩:=opS_of ho
 have hF:=MayF.ofH hM
 have HOP:=Lib.hid (open_any D hD w h)
 have HOD:=Lib.hid ho
 have hm8:(m.length:Int)≤8:=by have:=hF.l8;omega
 have hii:¬(i:Int)<0:=by omega
 have hil:¬(m.length:Int)≤(i:Int):=by omega
 have hil2:(i:Int)<(m.length:Int):=by omega
 have hil0:¬m.length≤i:=by omega
 have hil4:decide (m.length≤i)=false:=decide_eq_false hil0
 obtain ⟨L,hL⟩:∃L,L=ringS m D i:=⟨_,rfl⟩
 obtain ⟨C,hC⟩:∃C,C=cntS m i:=⟨_,rfl⟩
 have hLl:L.length=C:=by rw[hL];unfold ringS;rw[List.length_map,List.length_range,hC]
 have hLq:∀q (hq:q<L.length),L[q]=(decT (slotS D (offS m i+12*q)),decN (slotS D (offS m i+12*q))):=fun q hq=>by
  subst hL
  simp only[ringS,List.getElem_map,List.getElem_range]
 have HL:=Lib.hid (And.intro hLl (And.intro hLq hL))
 have hct:=hF.c1 i hi
 rw[←hC] at hct
 have hCi:(C:Int)≤16777216:=by omega
 have hsz:=hF.sz
 obtain ⟨of,hof⟩:∃of,of=offS m i:=⟨_,rfl⟩
 have HIN2:Hid (∀k,k<C→of+12*k+12≤D.length):=Lib.hid fun k hk=>by rw[hof,←hlen];exact ring_in hF hi (by rw[←hC];exact hk)
 have hDl:(D.length:Int)≤1048576:=by omega
 have HF:=Lib.hid (And.intro hF (And.intro hM (And.intro hC (And.intro hof hi))))
 have hwi:IntKind.i64.wrap (i:Int)=(i:Int):=IntWalk.i64_in _ (by omega)
 have HOF:Hid (∀b c W,m.length≤c→Ri W (some ⟨b,0,none⟩) (ints m)→Calls Tryz.prog 64 #[.agg #[.int .i64 ag, .int .i64 xf, .slice (some ⟨b,0,none⟩) m.length c], .int .i64 i] W fun e w'=>e= .returned (.int .i64 (of:Nat))∧Gr W w'):=Lib.hid fun b c W hc hr=>by
  rw[hof]
  exact offset_any ag xf (some ⟨b,0,none⟩) c m hM hc i hi W hr
 unfold RetRg
 rw[←hL]
 clear h hD ho hlen hM hF hL hLl hLq hct hsz hof hC hi
 go_enter Tryz.func27,Tryz.ntmps27
 go_upto_region 7 with (first|(go_at_call 44;refine HOP.out.mono ?_;rintro e w1 ⟨g1,h1⟩;rw[HOD.out] at h1;obtain ⟨X,b,cc,g,d,rfl,hfi,hgw⟩:=h1;have H1:=Lib.hid (And.intro g1 hfi);have x0:=hfi.x0;have x1:=hfi.x1;have x2:=hfi.x2;clear g1 hfi hgw)|(go_at_call 64;refine (HOF.out b cc _ H1.out.2.cap H1.out.2.ri).mono ?_;rintro e w2 ⟨rfl,g2⟩;have HF2:=Lib.hid (H1.out.2.gr g2);have HG2:=Lib.hid (H1.out.1.trans g2);clear g2 x0 x1 x2))
 have x2:=HF2.out.x2
 obtain ⟨a0,a1⟩:=HF2.out.arc HF.out.2.2.2.2
 rw[←HF.out.2.2.1] at a1
 go_upto_region 9 with (fail)
 clear x2 a0 a1
 go_loopw [11,51] (fun v j wr=>∃q:Nat,q≤C∧j= .int .i64 q∧Gr w2 wr∧wr.ownsRow w2.heap.size 54 2 v q (pcells (L.take q))) (fun _ j _=>C-(intOf j).toNat)
 case atStart=>exact ⟨0,Nat.zero_le _,rfl,Gr.refl _,World.ownsRow_nil _ _ _ _⟩
 case round=>
  obtain ⟨q,hq,rfl,hgr,hown⟩:=hrel
  have HFR:=Lib.hid (HF2.out.gr hgr)
  have x5:=HFR.out.x5
  obtain ⟨Aw,cw,hvw⟩:=own_form hown
  subst hvw
  by_cases hlt:q<C
  ·
   have hlti:(q:Int)<(C:Int):=by omega
   have hql:q<L.length:=by rw[HL.out.1];exact hlt
   have hx:=HL.out.2.1 q hql
   have htk:pcells (L.take (q+1))=pcells (L.take q)++pcells [L[q]]:=by rw[List.take_succ_eq_append_getElem hql,pcells_append]
   have hin:=HIN2.out q hlt
   have hcap:=own_capA HFR.out.row
   have hu1:IntKind.i64.wrap ((q:Int)*12)=((12*q:Nat):Int):=by rw[IntWalk.i64_in _ (by omega)];omega
   have hu2:IntKind.i64.wrap ((of:Int)+((12*q:Nat):Int))=((of+12*q:Nat):Int):=by rw[IntWalk.i64_in _ (by omega)];simp
   obtain ⟨k,hat⟩:∃k,k=of+12*q:=⟨_,rfl⟩
   obtain ⟨qq,hqq⟩:∃qq,qq=12*q:=⟨_,rfl⟩
   rw[←hat] at hu2 hin
   rw[←hqq] at hu1 hu2
   rw[←HF.out.2.2.2.1,←hat] at hx
   have hki:(k:Int)+12≤(D.length:Int):=by omega
   have hkd:(k:Int)+12≤(d:Int):=by omega
   have hw1:IntKind.i64.wrap ((k:Int)+12)=(k:Int)+12:=IntWalk.i64_in _ (by omega)
   have hw2:((k:Int)+12-(k:Int)).toNat=12:=by omega
   obtain ⟨pt,pn,hp⟩:∃pt pn,L[q]=(pt,pn):=⟨_,_,rfl⟩
   rw[hp] at hx htk
   injection hx with hx1 hx2
   have HDE:Hid (∀c',Calls Tryz.prog 65 #[.slice (some ⟨g,k,none⟩) 12 c'] wr (RetPt true pt pn wr)):=Lib.hid fun c'=>by
    have hsl:=HFR.out.slot hin
    have:=decode_any (some ⟨g,k,none⟩) c' (slotS D k) hsl.1 wr hsl.2
    rw[hsl.1,←hx1,←hx2] at this
    exact this
   have HTK:=Lib.hid htk
   have HGR:=Lib.hid hgr
   have HOW:=Lib.hid hown
   have hgz:=hgr.size
   clear hx1 hx2 hp htk hgr hown hat hqq hin hcap
   go_upto_region 12 with (go_at_call 65;refine (HDE.out _).mono ?_;rintro e w4 ⟨rfl,g4⟩;have HG4:=Lib.hid g4;have hz4:=g4.size;clear g4)
   obtain ⟨V5,hV5⟩:∃V5,V5=w4.alloc (.cells #[.int .i64 pt, .int .i64 pn] 54):=⟨_,rfl⟩
   have k5:Gr w4 V5:=by rw[hV5];exact Gr.alloc (Gr.refl w4) _
   have n0:V5.cell? ⟨w4.heap.size,0,none⟩=some (.int .i64 pt):=by rw[hV5];go_simp
   have n1:V5.cell? ⟨w4.heap.size,1,none⟩=some (.int .i64 pn):=by rw[hV5];go_simp
   have HG5:=Lib.hid (HG4.out.trans k5)
   have hz5:w2.heap.size≤V5.heap.size:=Nat.le_trans hgz (HG4.out.trans k5).size
   rw[←hV5]
   clear hV5 k5 x5
   go_wp2_with (at_builtin;have own5:=own_grU (own_grU HOW.out HG5.out) (Gr.alloc (Gr.refl V5) (.cells #[.int .i64 pt, .int .i64 pn] 54));have hrx:Rd (V5.alloc (.cells #[.int .i64 pt, .int .i64 pn] 54)) 2 (some ⟨V5.heap.size,0,none⟩) 1 (pcells [(pt,pn)]):=Rd.newU (W:=V5) (n:=1) (size:=2) rfl 54 (pcells [(pt,pn)]) rfl;refine wpList_append_rd rfl (.tmp 72) (.tmp 74) 38 rfl w2.heap.size 54 v0 _ 2 16 Tryz.underlying38 hv0 vz0 vz1 vz2 rfl (by decide) _ q _ rfl own5 (some ⟨V5.heap.size,0,none⟩) 1 _ (pcells [(pt,pn)]) rfl hrx (pcells_one _) (by unfold maxLen;omega) (by omega) (by first|(simp;done)|(simp;omega)) ?_;intro v6 w6 own6 hgr6 hob6;have H6:=Lib.hid (And.intro own6 (((HGR.out.trans HG5.out).alloc _).grown hgr6 (fun k e=>(own5.lt k e).1)));clear own5 hrx own6 hgr6 hob6)
   go_roundw
   case rel=>
    refine ⟨q+1,by omega,by go_num,H6.out.2,?_⟩
    rw[HTK.out]
    exact H6.out.1
   case measure=>simp[intOf];omega
  ·
   have hqe:q=C:=by omega
   subst hqe
   have hrv:Ri wr Aw L:=by
    have h2:=hown
    rw[←HL.out.1,List.take_length] at h2
    exact Ri.ownP h2
   have HRV:=Lib.hid (And.intro hrv (HG2.out.trans hgr))
   clear hrv hgr hown
   go_wp2
   go_ret2
   exact ⟨HRV.out.2,Aw,cw,by rw[HL.out.1];rfl,HRV.out.1⟩
def RetIw (D:List UInt8) (w:World) (e:Ending) (w':World):Prop:=
 Gr w w'∧match opS D with
  | none=>e= .returned (.tuple #[.agg #[.int .i64 0, .int .i64 0, .slice none 0 0], .int .i64 2])
  | some (ag,xf,m)=>∃A c,e= .returned (.tuple #[.agg #[.int .i64 (ag:Nat), .int .i64 (xf:Nat), .slice A m.length c], .int .i64 0])∧m.length≤c∧Ri w' A (ints m)
theorem RetIn.weak {D:List UInt8} {w:World} {e:Ending} {w':World} (h:RetIn D w e w'):RetIw D w e w':=by
 unfold RetIn at h
 unfold RetIw
 refine ⟨h.1,?_⟩
 have h2:=h.2
 cases e9:opS D with
 | none=>rw[e9] at h2;exact h2
 | some p=>
  obtain ⟨ag,xf,m⟩:=p
  rw[e9] at h2
  obtain ⟨A,c,e1,e2,e3, -⟩:=h2
  exact ⟨A,c,e1,e2,e3⟩
theorem winfo_any {Y:Nat→Prop} {F P M:Nat} {R:Option Nat} {room:Int} {n:Nat} (D:List UInt8) (hD:(D.length:Int)≤1073741824) (w:World) (h:FsM Y w F P M R room n (some D)):Calls Tryz.prog 15 #[.pointer (some ⟨F,0,none⟩), .string nmA] w (RetIw D w):=by
 obtain ⟨V,hV⟩:∃V,V=w.alloc (.cells #[.int .i64 0, .int .i64 0, .slice none 0 0] 24):=⟨_,rfl⟩
 have gV:Gr w V:=by rw[hV];exact Gr.alloc (Gr.refl w) _
 have hVb:HbS w.heap.size 0 0 V:=by rw[hV];exact HbS.new _
 have HV:=Lib.hid hV
 have HGV:=Lib.hid gV
 have HOP:=Lib.hid (open_any D hD V (h.gr gV))
 obtain ⟨oo,hoo⟩:∃oo,oo=opS D:=⟨_,rfl⟩
 have HOO:=Lib.hid hoo
 unfold RetIw
 rw[←hoo]
 cases oo with
 | none=>
  clear h hoo hV gV
  go_enter Tryz.func15,Tryz.ntmps15
  go_upto_region 1 with (fail)
  rw[←HV.out]
  clear HV
  go_wp2_with (go_at_call 44;refine HOP.out.mono ?_;rintro e w1 ⟨g1,h1⟩;rw[←HOO.out] at h1;simp only at h1;subst h1;obtain ⟨hz,z0,z1,z2,f0,f1,f2⟩:=hVb.gr g1;have HG1:=Lib.hid (HGV.out.trans g1);clear g1 hVb)
  refine bodyPost_ret (v:= .tuple #[.agg #[.int .i64 0, .int .i64 0, .slice none 0 0], .int .i64 2]) (by simp[results,Tryz.results15,go_sem, *]) rfl ?_
  exact ⟨((HG1.out.setCell (p:=⟨w.heap.size,0,none⟩) (Nat.le_refl _) _).setCell (p:=⟨w.heap.size,1,none⟩) (Nat.le_refl _) _).setCell (p:=⟨w.heap.size,2,none⟩) (Nat.le_refl _) _,rfl⟩
 | some p=>
  obtain ⟨ag,xf,m⟩:=p
  clear h hoo hV gV
  go_enter Tryz.func15,Tryz.ntmps15
  go_upto_region 1 with (fail)
  rw[←HV.out]
  clear HV
  go_wp2_with (go_at_call 44;refine HOP.out.mono ?_;rintro e w1 ⟨g1,h1⟩;rw[←HOO.out] at h1;obtain ⟨X,b,cc,g,d,rfl,hfi,hgw⟩:=h1;obtain ⟨hz,z0,z1,z2,f0,f1,f2⟩:=hVb.gr g1;have H1:=Lib.hid (And.intro (HGV.out.trans g1) hfi);have x0:=hfi.x0;have x1:=hfi.x1;have x2:=hfi.x2;have hzz:=hfi.lX;clear g1 hfi hgw hVb)
  have HNB:Hid (b≠w.heap.size):=Lib.hid (fun e=>by
   have hl:=MayF.ofH H1.out.2.may
   obtain ⟨a0, -⟩:=H1.out.2.arc (i:=0) hl.l1
   rw[e] at a0
   rw[show (0:Nat)*2=0 by rfl,z0] at a0
   have hs:=(hl.s1 0 hl.l1).1
   injection a0 with a0
   injection a0 with _ a0
   omega)
  refine bodyPost_ret (v:= .tuple #[.agg #[.int .i64 (ag:Nat), .int .i64 (xf:Nat), .slice (some ⟨b,0,none⟩) m.length cc], .int .i64 0]) (by simp[results,Tryz.results15,go_sem, *]) rfl ?_
  exact ⟨((H1.out.1.setCell (p:=⟨w.heap.size,0,none⟩) (Nat.le_refl _) _).setCell (p:=⟨w.heap.size,1,none⟩) (Nat.le_refl _) _).setCell (p:=⟨w.heap.size,2,none⟩) (Nat.le_refl _) _,some ⟨b,0,none⟩,cc,rfl,H1.out.2.cap,Ri.set3 (fun ad e=>by injection e with e;rw[←e];exact HNB.out) H1.out.2.ri⟩
section
open Go.RowKit Go.ChangeMaps Go.Maps
theorem wcreate_any {Y:Nat→Prop} {F P M:Nat} {R:Option Nat} {room:Int} {n:Nat} (ag xf:Nat) (A:Option Addr) (c:Nat) (m:List (Nat×Nat)) (hM:mayH ag xf (ints m)=true) (hcap:m.length≤c) (hn:n≤1000000) (hr1:(sizeS m:Int)≤room) (hr2:room≤1073741824) (w:World) (h:FsM Y w F P M R room n none) (hr:Ri w A (ints m)):Calls Tryz.prog 11 #[.pointer (some ⟨F,0,none⟩), .string nmA, .agg #[.int .i64 ag, .int .i64 xf, .slice A m.length c]] w fun e w'=>e= .returned (.int .i64 0)∧FsM Y w' F P M none room 0 (some (hdrS ag xf m++List.replicate (sizeS m-(16+12*m.length)) 0))∧Kp (Tch P M R) w w':=by
 obtain ⟨i0,hi0,hz0,hz1,hz2⟩:=info_parts info_u8
 obtain ⟨V,hV⟩:∃V,V=w.alloc (.cells #[.int .i64 ag, .int .i64 xf, .slice A m.length c] 24):=⟨_,rfl⟩
 have gV:Gr w V:=by rw[hV];exact Gr.alloc (Gr.refl w) _
 have hz:w.heap.size<V.heap.size:=by rw[hV];simp
 have c0:V.cell? ⟨w.heap.size,0,none⟩=some (.int .i64 ag):=by rw[hV];go_simp
 have c1:V.cell? ⟨w.heap.size,1,none⟩=some (.int .i64 xf):=by rw[hV];go_simp
 have c2:V.cell? ⟨w.heap.size,2,none⟩=some (.slice A m.length c):=by rw[hV];go_simp
 have HE:=Lib.hid (hencode_any ag xf A c m hM hcap V (hr.gr gV))
 have hf:=mayS_facts (m:=m) (by have h:=hM;unfold mayH at h;rw[Bool.and_eq_true,nats_ints] at h;exact h.2)
 have hss:=fun W (hW:Ri W A (ints m))=>hsize_any ag xf A c (ints m) (by rw[ints_len];omega) W hW
 rw[hM,nats_ints,ints_len] at hss
 have hsz:=sizeS_eq m
 have hsl:=hdrS_len ag xf m
 obtain ⟨S,hS⟩:∃S,S=sizeS m:=⟨_,rfl⟩
 obtain ⟨B,hB⟩:∃B,B=hdrS ag xf m:=⟨_,rfl⟩
 rw[←hS] at hss hsz hf hr1 ⊢
 rw[←hB] at hsl HE ⊢
 rw[←hsl] at hsz ⊢
 have hKS:(B.length:Int)≤(S:Int):=by omega
 have hSi:(S:Int)≤1048576:=by omega
 have hK0:B.length≤112:=by omega
 have hw1:IntKind.i64.wrap ((S:Int)-(B.length:Int))=(S:Int)-(B.length:Int):=IntWalk.i64_in _ (by omega)
 have hw2:¬(S:Int)-(B.length:Int)<0:=by omega
 obtain ⟨Z,hZ⟩:∃Z,Z=S-B.length:=⟨_,rfl⟩
 have hZi:(Z:Int)=(S:Int)-(B.length:Int):=by omega
 have hmk:=fun W=>make_bytes Z (by omega) W
 rw[hZi] at hmk
 rw[←hZ]
 have hB0:0<B.length:=by omega
 have hBZ:(B++List.replicate Z 0).length=S:=by rw[List.length_append,List.length_replicate];omega
 have HBZ:=Lib.hid hBZ
 have hZl:Z=(List.replicate Z (0:UInt8)).length:=by rw[List.length_replicate]
 have HZL:=Lib.hid hZl
 have HSR:Hid ((S:Int)≤room):=Lib.hid (by omega)
 clear hZ hZi hZl hBZ
 have HSS:=Lib.hid hss
 have HR:=Lib.hid (hr.gr gV)
 have HV:=Lib.hid hV
 have HG:=Lib.hid gV
 have H0:=Lib.hid (h.gr gV)
 have HX:=Lib.hid (And.intro hf (And.intro hsz (And.intro hS (And.intro hB hsl))))
 clear hV gV hr hM h hss hf hsz hS hB hsl
 go_enter Tryz.func11,Tryz.ntmps11
 go_upto_region 1 with (fail)
 rw[←HV.out]
 clear HV
 go_upto_region 6 with (go_at_call 31;refine HE.out.mono ?_;rintro e w1 ⟨A5,c5,rfl,hc5,hb5,g1,hf5⟩;have d0:=(Below.cell g1 (p:=⟨w.heap.size,0,none⟩) hz).trans c0;have d1:=(Below.cell g1 (p:=⟨w.heap.size,1,none⟩) hz).trans c1;have d2:=(Below.cell g1 (p:=⟨w.heap.size,2,none⟩) hz).trans c2;have HG1:=Lib.hid g1;obtain ⟨p5,rfl,hp5, -⟩:=hb5.2 hB0;have HB5:=Lib.hid (And.intro hb5 hp5);clear g1 hb5 hf5 hp5)
 go_wp2_with (first|(go_at_call 32;refine (HSS.out _ (HR.out.gr HG1.out)).mono ?_;rintro e w2 ⟨rfl,g2⟩;have HG2:=Lib.hid (HG1.out.trans g2);have HB2:=Lib.hid (HB5.out.1.gr g2);clear g2)|(go_at_call 19;refine (fcreate_two (w2.heap.size+1) 2 B (List.replicate Z 0) hB0 (by rw[HBZ.out];exact HSR.out) hr2 hn (by omega) _ ((H0.out.gr HG2.out).gr (two_parts w2 B (List.replicate Z 0) p5 c5 HB2.out Z HZL.out).2) (two_parts w2 B (List.replicate Z 0) p5 c5 HB2.out Z HZL.out).1).mono ?_;rintro e w8 ⟨rfl,R',hF,hK,hf⟩;have H8:=Lib.hid (And.intro hF (And.intro (hK.size) (And.intro hf ((Kp.of_gr (Tch P M R) (HG.out.trans (HG2.out.trans (two_parts w2 B (List.replicate Z 0) p5 c5 HB2.out Z HZL.out).2))).trans hK (fun _ _ e=>e)))));clear hF hK hf)|(go_at_call 33;refine (sync_any _ H8.out.1).mono ?_;rintro e w9 ⟨rfl,hF,hK⟩;have H9:=Lib.hid (And.intro hF (H8.out.2.2.2.trans hK (fun _ _ e=> .inl e)));clear hF hK))
 go_ret
 exact ⟨rfl,H9.out⟩
end
theorem Ri.cells {w:World} {A:Option Addr} {l:List (Int×Int)} (h:Ri w A l) (h0:0<l.length):∃ad,A=some ad∧∀k (hk:k<l.length) W,Gr w W→W.cell? (ad.add (k*2))=some (.int .i64 l[k].1)∧W.cell? ⟨(ad.add (k*2)).block,(ad.add (k*2)).off+1,none⟩=some (.int .i64 l[k].2):=by
 obtain ⟨ad,e,hb,hc⟩:=h h0
 have hbk:∀z,(ad.add z).block<w.heap.size:=fun z=>by rw[adB];exact hb
 exact ⟨ad,e,fun k hk W g=>⟨(Below.cell g (p:=ad.add (k*2)) (hbk _)).trans (hc k hk).1,(Below.cell g (p:=⟨(ad.add (k*2)).block,(ad.add (k*2)).off+1,none⟩) (hbk _)).trans (hc k hk).2⟩⟩
theorem headers_same (ag xf:Int) (A A':Option Addr) (c c':Nat) (l:List (Int×Int)) (hl:l.length≤1000000) (w:World) (hr:Ri w A l) (hr':Ri w A' l):Calls Tryz.prog 17 #[.agg #[.int .i64 ag, .int .i64 xf, .slice A l.length c], .agg #[.int .i64 ag, .int .i64 xf, .slice A' l.length c']] w fun e w'=>e= .returned (.bool true)∧Gr w w':=by
 obtain ⟨V1,hV1⟩:∃V1,V1=w.alloc (.cells #[.int .i64 ag, .int .i64 xf, .slice A l.length c] 24):=⟨_,rfl⟩
 have gV1:Gr w V1:=by rw[hV1];exact Gr.alloc (Gr.refl w) _
 have zV1:w.heap.size<V1.heap.size:=by rw[hV1];simp
 have b0:V1.cell? ⟨w.heap.size,0,none⟩=some (.int .i64 ag):=by rw[hV1];go_simp
 have b1:V1.cell? ⟨w.heap.size,1,none⟩=some (.int .i64 xf):=by rw[hV1];go_simp
 have b2:V1.cell? ⟨w.heap.size,2,none⟩=some (.slice A l.length c):=by rw[hV1];go_simp
 obtain ⟨V2,hV2⟩:∃V2,V2=V1.alloc (.cells #[.int .i64 ag, .int .i64 xf, .slice A' l.length c'] 24):=⟨_,rfl⟩
 have gV2:Gr V1 V2:=by rw[hV2];exact Gr.alloc (Gr.refl V1) _
 have zV2:V1.heap.size<V2.heap.size:=by rw[hV2];simp
 have d0:V2.cell? ⟨V1.heap.size,0,none⟩=some (.int .i64 ag):=by rw[hV2];go_simp
 have d1:V2.cell? ⟨V1.heap.size,1,none⟩=some (.int .i64 xf):=by rw[hV2];go_simp
 have d2:V2.cell? ⟨V1.heap.size,2,none⟩=some (.slice A' l.length c'):=by rw[hV2];go_simp
 have HV:=Lib.hid hV2
 have HG:=Lib.hid (gV1.trans gV2)
 have e0:=(Below.cell gV2 (p:=⟨w.heap.size,0,none⟩) zV1).trans b0
 have e1:=(Below.cell gV2 (p:=⟨w.heap.size,1,none⟩) zV1).trans b1
 have e2:=(Below.cell gV2 (p:=⟨w.heap.size,2,none⟩) zV1).trans b2
 have HB:Hid (∀W,Gr V2 W→W.cell? ⟨w.heap.size,2,none⟩=some (.slice A l.length c)∧W.cell? ⟨V1.heap.size,2,none⟩=some (.slice A' l.length c')):=Lib.hid fun W g=>⟨(Below.cell g (p:=⟨w.heap.size,2,none⟩) (Nat.lt_of_lt_of_le zV1 gV2.size)).trans e2,(Below.cell g (p:=⟨V1.heap.size,2,none⟩) zV2).trans d2⟩
 have HR:=Lib.hid (And.intro (hr.gr (gV1.trans gV2)) (hr'.gr (gV1.trans gV2)))
 have hli:(l.length:Int)≤1000000:=by omega
 have hb1:V1.heap.size=w.heap.size+1:=by rw[hV1];simp
 rw[hb1] at d0 d1 d2 HB zV2
 clear hr hr' b0 b1 b2
 rw[hV1] at hV2
 have HV:=Lib.hid hV2
 clear hV1 hV2 gV1 gV2 hb1
 go_enter Tryz.func17,Tryz.ntmps17
 go_upto_region 1 with (fail)
 rw[←HV.out]
 clear HV
 go_upto_region 4 with (fail)
 clear e0 e1 d0 d1 d2 e2
 go_loopw [5] (fun k wr=>∃q:Nat,q≤l.length∧k= .int .i64 q∧Gr V2 wr) (fun k _=>l.length-(intOf k).toNat)
 case atStart=>exact ⟨0,Nat.zero_le _,rfl,Gr.refl _⟩
 case round=>
  obtain ⟨q,hq,rfl,hgr⟩:=hrel
  obtain ⟨u2,v2⟩:=HB.out wr hgr
  by_cases hlt:q<l.length
  ·
   have hlti:(q:Int)<(l.length:Int):=by omega
   obtain ⟨ad,rfl,hp⟩:=Ri.cells (HR.out.1.gr hgr) (by omega)
   obtain ⟨ad',rfl,hp'⟩:=Ri.cells (HR.out.2.gr hgr) (by omega)
   obtain ⟨x,hx⟩:∃x,x=l[q].1:=⟨_,rfl⟩
   obtain ⟨y,hy⟩:∃y,y=l[q].2:=⟨_,rfl⟩
   have hp:=hp q hlt
   have hp':=hp' q hlt
   rw[←hx,←hy] at hp hp'
   have HP:=Lib.hid hp
   have HQ:=Lib.hid hp'
   have HBR:=Lib.hid (fun W (g:Gr wr W)=>HB.out W (hgr.trans g))
   have HGR:=Lib.hid hgr
   have hwq:IntKind.i64.wrap (q:Int)=(q:Int):=IntWalk.i64_in _ (by omega)
   clear hp hp' hx hy hgr
   go_upto_region 6 with (fail)
   clear u2 v2
   refine region_R (by kernel_rfl) (by kernel_rfl) ?_
   refine rv ?_;simp only[Pu]
   refine r_val (v:=?qv2) (by kernel_rfl) (fun W hW=>?qh2) ?qr2
   case qh2=>have u2:=(HBR.out W hW).1;go_light;go_simp;rfl
   simp only[Pu]
   iterate 2 (refine rv ?_;simp only[Pu])
   refine r_val (v:=?qv5) (by kernel_rfl) (fun W hW=>?qh5) ?qr5
   case qh5=>obtain ⟨p0,p1⟩:=HP.out W hW;go_light;go_simp;rfl
   simp only[Pu]
   refine rv ?_;simp only[Pu]
   refine r_val (v:=?qv7) (by kernel_rfl) (fun W hW=>?qh7) ?qr7
   case qh7=>have v2:=(HBR.out W hW).2;go_light;go_simp;rfl
   simp only[Pu]
   iterate 2 (refine rv ?_;simp only[Pu])
   refine r_val (v:=?qv10) (by kernel_rfl) (fun W hW=>?qh10) ?qr10
   case qh10=>obtain ⟨p0,p1⟩:=HQ.out W hW;go_light;go_simp;rfl
   simp only[Pu]
   refine rv ?_;simp only[Pu]
   refine r_nil ?_
   intro w5 g5
   have HG5:=Lib.hid (HGR.out.trans g5)
   clear g5
   go_wp2
   go_roundw
   case rel=>exact ⟨q+1,by omega,by go_num,HG5.out⟩
   case measure=>simp[intOf];omega
  ·
   have hqe:q=l.length:=by omega
   have HGR:=Lib.hid (HG.out.trans hgr)
   have hlti:¬(q:Int)<(l.length:Int):=by omega
   clear hgr
   go_wp2
   go_ret
   exact ⟨rfl,HGR.out⟩
theorem FsM.withY2 {Y Y':Nat→Prop} {w:World} {F P M:Nat} {R:Option Nat} {room:Int} {n:Nat} {D:List UInt8} (h:FsM Y w F P M R room n (some D)) (h0:0<D.length) (h2:∀k,Y' k→k<w.heap.size) (hc:∀k,Y' k→∃z,w.cell? ⟨k,0,none⟩=some (.int .i64 z)):FsM Y' w F P M R room n (some D):=by
 refine ⟨h.lf,h.lp,h.lm,h.nfp,h.nfm,h.npm,h.f0,h.f1,h.f2,h.p0,h.p1,h.z0,h.z1,h.rr,h2,?_⟩
 obtain ⟨clk,born,A,c,hb,hcc,hr,hx⟩:=h.mp
 obtain ⟨q,rfl,hq,hx⟩:=hx.pos h0
 refine ⟨clk,born,_,c,hb,hcc,hr, .inr ⟨q,rfl,hq,hx.1,hx.2.1,hx.2.2.1,fun e=>?_⟩⟩
 obtain ⟨z,hz⟩:=hc q e
 obtain ⟨ad,e2, -,hcell⟩:=hr.at h0
 injection e2 with e2
 subst e2
 have:(⟨q,0,none⟩:Addr).add 0=⟨q,0,none⟩:=rfl
 rw[this,hz] at hcell
 injection hcell with hcell
 injection hcell with hk
 cases hk
structure Par (w:World) (F P M X:Nat) (R R2:Option Nat) (n n2:Nat) (room:Int) (D E:Option (List UInt8)):Prop where
 fs:FsM (fun k=>k=X∨R2=some k) w F P M R room n D
 rs:RsM (fun k=>k=F∨k=P∨k=M∨R=some k) w X R2 room n2 E
 r0:∀k,R2=some k→∃z,w.cell? ⟨k,0,none⟩=some (.int .i64 z)
theorem Par.apart {w:World} {F P M X:Nat} {R R2:Option Nat} {n n2:Nat} {room:Int} {D E:Option (List UInt8)} (h:Par w F P M X R R2 n n2 room D E):(X≠F∧X≠P∧X≠M∧R≠some X)∧∀k,R2=some k→k≠F∧k≠P∧k≠M∧R≠some k:=
 ⟨⟨fun e=>h.rs.nY (.inl e),fun e=>h.rs.nY (.inr (.inl e)),fun e=>h.rs.nY (.inr (.inr (.inl e))),fun e=>h.rs.nY (.inr (.inr (.inr e)))⟩,fun k hk=>⟨fun e=>h.rs.rY k hk (.inl e),fun e=>h.rs.rY k hk (.inr (.inl e)),fun e=>h.rs.rY k hk (.inr (.inr (.inl e))),fun e=>h.rs.rY k hk (.inr (.inr (.inr e)))⟩⟩
theorem Par.gr {w w':World} {F P M X:Nat} {R R2:Option Nat} {n n2:Nat} {room:Int} {D E:Option (List UInt8)} (h:Par w F P M X R R2 n n2 room D E) (g:Gr w w'):Par w' F P M X R R2 n n2 room D E:=⟨h.fs.gr g,h.rs.gr g,fun k e=>by
 obtain ⟨z,hz⟩:=h.r0 k e
 exact ⟨z,(Below.cell g (p:=⟨k,0,none⟩) (h.rs.lR k e)).trans hz⟩⟩
theorem Par.left {Y:Nat→Prop} {w w':World} {F P M X:Nat} {R R2:Option Nat} {n n2:Nat} {room:Int} {D E:Option (List UInt8)} {L:List UInt8} (h:Par w F P M X R R2 n n2 room D E) (hf:FsM Y w' F P M none room 0 (some L)) (h0:0<L.length) (k:Kp (Tch P M R) w w'):Par w' F P M X none R2 0 n2 room (some L) E:=by
 have hr:=h.rs.kp k (fun g _ e=>by
  rcases e with e|e|e
  ·
   exact .inr (.inl e)
  ·
   exact .inr (.inr (.inl e))
  ·
   exact .inr (.inr (.inr e)))
 have hr0:∀q,R2=some q→∃z,w'.cell? ⟨q,0,none⟩=some (.int .i64 z):=fun q e=>by
  obtain ⟨z,hz⟩:=h.r0 q e
  obtain ⟨a1,a2,a3,a4⟩:=h.apart.2 q e
  exact ⟨z,(k.cell (a:=⟨q,0,none⟩) (h.rs.lR q e) (fun e=>by
   rcases e with e|e|e
   ·
    exact a2 e
   ·
    exact a3 e
   ·
    exact a4 e)).trans hz⟩
 refine ⟨hf.withY2 h0 (fun q e=>?_) (fun q e=>?_),hr.weak (fun q e=>?_),hr0⟩
 ·
  rcases e with e|e
  ·
   subst e;exact hr.lX
  ·
   exact hr.lR q e
 ·
  rcases e with e|e
  ·
   subst e;exact ⟨_,hr.x0⟩
  ·
   exact hr0 q e
 ·
  rcases e with e|e|e|e
  ·
   exact .inl e
  ·
   exact .inr (.inl e)
  ·
   exact .inr (.inr (.inl e))
  ·
   cases e
theorem Par.right {w w':World} {F P M X:Nat} {R R2:Option Nat} {n n2:Nat} {room:Int} {D E E':Option (List UInt8)} (h:Par w F P M X R R2 n n2 room D E) (hr:RsM (fun k=>k=F∨k=P∨k=M∨R=some k) w' X none room 0 E') (k:Kp (Xch X R2) w w'):Par w' F P M X R none n 0 room D E':=by
 obtain ⟨⟨a1,a2,a3,a4⟩,b⟩:=h.apart
 have hn:∀q,q≠X→(R2=some q→False)→¬Xch X R2 q:=fun q h1 h2 e=>by
  rcases e with e|e
  ·
   exact h1 e
  ·
   exact h2 e
 refine ⟨(h.fs.kp k (hn F (fun e=>a1 e.symm) (fun e=>(b F e).1 rfl)) (hn P (fun e=>a2 e.symm) (fun e=>(b P e).2.1 rfl)) (hn M (fun e=>a3 e.symm) (fun e=>(b M e).2.2.1 rfl)) (fun i e=>hn i (fun e2=>a4 (e2▸e)) (fun e2=>(b i e2).2.2.2 e)) (fun g _ e=> .inr (.inr (.inr (.inr (.inr (.inr e))))))).more (Gr.refl w') (fun q e=>?_) (fun q e=>?_),hr,fun q e=>by cases e⟩
 ·
  rcases e with e|e
  ·
   exact .inl (.inl e)
  ·
   cases e
 ·
  rcases e with e|e
  ·
   rw[e];exact hr.lX
  ·
   cases e
end Go.Proofs.YtoncapkmaeghfaaGreat
