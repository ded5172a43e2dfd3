import Derived.Test.YtoncapkmaeghfaaGreatRunRwDo
import Derived.Test.YtoncapkmaeghfaaGreatRunFxBase
import Derived.Test.YtoncapkmaeghfaaGreatRunAgOfR
import Derived.Test.YtoncapkmaeghfaaGreatRunWiHdr
set_option linter.all false
set_option maxRecDepth 1000000
set_option maxHeartbeats 12800000
namespace Go.Proofs.YtoncapkmaeghfaaGreat
open Go.RowKit
theorem rmay_any (ag xf:Int) (A:Option Addr) (c:Nat) (l:List (Int×Int)) (w:World) (hr:Ri w A l):Calls Tryz.prog 6 #[.agg #[.int .i64 ag, .int .i64 xf, .slice A l.length c]] w fun e w'=>e= .returned (.bool (mayH ag xf l))∧Gr w w':=by
 obtain ⟨V,hV⟩:∃V,V=w.alloc (.cells #[.int .i64 ag, .int .i64 xf, .slice A l.length c] 24):=⟨_,rfl⟩
 have gV:Gr w V:=by rw[hV];exact Gr.alloc (Gr.refl w) _
 have hz:w.heap.size<V.heap.size:=by rw[hV];simp
 have c0:V.cell? ⟨w.heap.size,0,none⟩=some (.int .i64 ag):=by rw[hV];go_simp
 have c1:V.cell? ⟨w.heap.size,1,none⟩=some (.int .i64 xf):=by rw[hV];go_simp
 have c2:V.cell? ⟨w.heap.size,2,none⟩=some (.slice A l.length c):=by rw[hV];go_simp
 have HV:=Lib.hid hV
 have HG:=Lib.hid gV
 have HR:=Lib.hid (hr.gr gV)
 clear hV gV hr
 by_cases n1:ag<1
 ·
  have HM:Hid (mayH ag xf l=false):=Lib.hid (mayH_no (.inl n1))
  go_enter Tryz.func6,Tryz.ntmps6
  go_upto_region 1 with (fail)
  rw[←HV.out]
  clear HV
  go_wp2
  go_ret
  exact ⟨by rw[HM.out];rfl,HG.out⟩
 by_cases n2:5<ag
 ·
  have HM:Hid (mayH ag xf l=false):=Lib.hid (mayH_no (.inr (.inl n2)))
  go_enter Tryz.func6,Tryz.ntmps6
  go_upto_region 1 with (fail)
  rw[←HV.out]
  clear HV
  go_wp2
  go_ret
  exact ⟨by rw[HM.out];rfl,HG.out⟩
 by_cases n3:xf<0
 ·
  have HM:Hid (mayH ag xf l=false):=Lib.hid (mayH_no (.inr (.inr (.inl n3))))
  go_enter Tryz.func6,Tryz.ntmps6
  go_upto_region 1 with (fail)
  rw[←HV.out]
  clear HV
  go_wp2
  go_ret
  exact ⟨by rw[HM.out];rfl,HG.out⟩
 by_cases n4:1000000<xf
 ·
  have HM:Hid (mayH ag xf l=false):=Lib.hid (mayH_no (.inr (.inr (.inr n4))))
  go_enter Tryz.func6,Tryz.ntmps6
  go_upto_region 1 with (fail)
  rw[←HV.out]
  clear HV
  go_wp2
  go_ret
  exact ⟨by rw[HM.out];rfl,HG.out⟩
 have HY:=Lib.hid (mayH_yes (l:=l) n1 n2 n3 n4)
 rcases Nat.eq_zero_or_pos l.length with h0|h0
 ·
  have hM:mayH ag xf l=false:=HY.out.trans (mayS_len (.inl (by rw[nats_len];exact h0)))
  have HM:=Lib.hid hM
  clear hM
  have h1:(l.length:Int)<1:=by omega
  clear h0
  go_enter Tryz.func6,Tryz.ntmps6
  go_upto_region 1 with (fail)
  rw[←HV.out]
  clear HV
  go_wp2
  go_ret
  exact ⟨by rw[HM.out];rfl,HG.out⟩
 rcases Nat.lt_or_ge 8 l.length with h8|h8
 ·
  have hM:mayH ag xf l=false:=HY.out.trans (mayS_len (.inr (by rw[nats_len];exact h8)))
  have HM:=Lib.hid hM
  clear hM
  have h1:¬(l.length:Int)<1:=by omega
  have h2:(8:Int)<(l.length:Int):=by omega
  clear h0 h8
  go_enter Tryz.func6,Tryz.ntmps6
  go_upto_region 1 with (fail)
  rw[←HV.out]
  clear HV
  go_wp2
  go_ret
  exact ⟨by rw[HM.out];rfl,HG.out⟩
 have h1:¬(l.length:Int)<1:=by omega
 have h2:¬(8:Int)<(l.length:Int):=by omega
 have H8:=Lib.hid (And.intro h0 h8)
 clear h0 h8
 go_enter Tryz.func6,Tryz.ntmps6
 go_upto_region 1 with (fail)
 rw[←HV.out]
 clear HV
 go_upto_region 3 with (fail)
 clear n1 n2 n3 n4
 go_wp2
 go_loopw [4,3] (fun i n wr=>∃k:Nat,k≤l.length∧i= .int .i64 k∧n= .int .i64 (sizeS ((nats l).take k):Nat)∧sizeS ((nats l).take k)≤1048576∧(∀j,j<k→stepOk (nats l) j=true)∧Gr V wr) (fun i _ _=>l.length-(intOf i).toNat)
 case atStart=>exact ⟨0,Nat.zero_le _,rfl,rfl,by rw[List.take_zero];decide,fun j hj=>absurd hj (Nat.not_lt_zero _),Gr.refl _⟩
 case round=>
  obtain ⟨k,hk,rfl,rfl,hsz,hall,hgr⟩:=hrel
  have Hall:=Lib.hid hall
  have Hgr:=Lib.hid hgr
  have hzw:w.heap.size<wr.heap.size:=Nat.lt_of_lt_of_le hz hgr.size
  have c2':=(Below.cell hgr (p:=⟨w.heap.size,2,none⟩) hz).trans c2
  clear hall c2
  have c2:=c2'
  clear c2'
  by_cases hlt:k<l.length
  ·
   have hlt':(k:Int)<(l.length:Int):=by omega
   obtain ⟨ad,rfl,hb,hc⟩:=(HR.out.gr hgr) (by omega)
   have hbn:∀n,(ad.add n).block<wr.heap.size:=fun n=>by rw[adB];exact hb
   have hl8:(l.length:Int)≤8:=by have:=H8.out.2;omega
   obtain ⟨d0,d1⟩:=hc k hlt
   have Hc:=Lib.hid hc
   have hltn:k<(nats l).length:=by rw[nats_len];exact hlt
   have hst:=stepOk_at (l:=nats l) (k:=k) hltn
   have hsT:=sizeS_take (l:=nats l) (k:=k) hltn
   rw[nats_at l k hlt hltn] at hst hsT
   have hgr0:=Hgr
   clear hc hgr
   have hxl:l[k]=(l[k].1,l[k].2):=rfl
   obtain ⟨x1,hx1⟩:∃x,x=l[k].1:=⟨_,rfl⟩
   obtain ⟨x2,hx2⟩:∃x,x=l[k].2:=⟨_,rfl⟩
   rw[←hx1] at d0 hst hsT
   rw[←hx2] at d1 hst hsT
   have Hst:=Lib.hid hst
   have HsT:=Lib.hid hsT
   clear hx1 hx2 hst hxl hsT
   go_upto_region 8 with (fail)
   obtain ⟨wB,hwB⟩:∃wB,wB=wr.alloc (.cells #[.int .i64 x1, .int .i64 x2] 69):=⟨_,rfl⟩
   have gB:Gr wr wB:=by rw[hwB];exact Gr.alloc (Gr.refl wr) _
   have hz4:wr.heap.size<wB.heap.size:=by rw[hwB];simp
   have e0:wB.cell? ⟨wr.heap.size,0,none⟩=some (.int .i64 x1):=by rw[hwB];go_simp
   have e1:wB.cell? ⟨wr.heap.size,1,none⟩=some (.int .i64 x2):=by rw[hwB];go_simp
   rw[←hwB]
   have hbw:∀n,(ad.add n).block<wB.heap.size:=fun n=>Nat.lt_of_lt_of_le (hbn n) gB.size
   have c2':=(Below.cell gB (p:=⟨w.heap.size,2,none⟩) hzw).trans c2
   have hzw':=Nat.lt_of_lt_of_le hzw gB.size
   have Hc':Hid (∀j (h:j<l.length),wB.cell? (ad.add (j*2))=some (.int .i64 l[j].1)∧wB.cell? ⟨(ad.add (j*2)).block,(ad.add (j*2)).off+1,none⟩=some (.int .i64 l[j].2)):=Lib.hid fun j h=>⟨(Below.cell gB (p:=ad.add (j*2)) (hbn _)).trans (Hc.out j h).1,(Below.cell gB (p:=⟨(ad.add (j*2)).block,(ad.add (j*2)).off+1,none⟩) (hbn _)).trans (Hc.out j h).2⟩
   have HgB:=Lib.hid (hgr0.out.trans gB)
   generalize wr.heap.size=B4 at hz4 e0 e1 ⊢
   clear hwB c0 c1 c2 hzw d0 d1 hb hbn Hc gB
   have c2:=c2'
   have hzw:=hzw'
   clear c2' hzw'
   by_cases m1:x1<1
   ·
    have HM:Hid (mayH ag xf l=false):=Lib.hid (HY.out.trans (mayS_step (by rw[nats_len];exact hlt) (by rw[Hst.out,one_no (by omega)];rfl)))
    have t1:x1<1:=by omega
    have t2:decide (x1<1)=true:=decide_eq_true t1
    clear Hst hlt m1
    refine region_R (by kernel_rfl) (by kernel_rfl) ?_
    refine rv ?_;simp only[Pu]
    refine r_val (v:=?qv2) (by kernel_rfl) (fun W hW=>?qh2) ?qr2
    case qh2=>have g:=(Below.cell hW (p:=⟨B4,0,none⟩) hz4).trans e0;go_light;go_simp;rfl
    simp only[Pu]
    iterate 2 (refine rv ?_;simp only[Pu])
    iterate 3 (refine rs ?_;simp only[Pu])
    iterate 2 (refine rv ?_;simp only[Pu])
    iterate 3 (refine rs ?_;simp only[Pu])
    iterate 2 (refine rv ?_;simp only[Pu])
    iterate 3 (refine rs ?_;simp only[Pu])
    iterate 2 (refine rv ?_;simp only[Pu])
    iterate 13 (refine rs ?_;simp only[Pu])
    refine rv ?_;simp only[Pu]
    refine r_nil ?_
    intro w8 hw8
    have HW9:=Lib.hid hw8
    clear hw8
    go_wp2
    go_ret
    exact ⟨by rw[HM.out];rfl,(HG.out.trans HgB.out).trans HW9.out⟩
   by_cases m2:16777216<x1
   ·
    have HM:Hid (mayH ag xf l=false):=Lib.hid (HY.out.trans (mayS_step (by rw[nats_len];exact hlt) (by rw[Hst.out,one_no (by omega)];rfl)))
    have t1:¬x1<1:=by omega
    have t2:(16777216:Int)<x1:=by omega
    have t3:decide (x1<1)=false:=decide_eq_false t1
    have t4:decide ((16777216:Int)<x1)=true:=decide_eq_true t2
    clear Hst hlt m1 m2
    refine region_R (by kernel_rfl) (by kernel_rfl) ?_
    refine rv ?_;simp only[Pu]
    refine r_val (v:=?qv13) (by kernel_rfl) (fun W hW=>?qh13) ?qr13
    case qh13=>have g:=(Below.cell hW (p:=⟨B4,0,none⟩) hz4).trans e0;go_light;go_simp;rfl
    simp only[Pu]
    iterate 3 (refine rv ?_;simp only[Pu])
    refine r_val (v:=?qv17) (by kernel_rfl) (fun W hW=>?qh17) ?qr17
    case qh17=>have g:=(Below.cell hW (p:=⟨B4,0,none⟩) hz4).trans e0;go_light;go_simp;rfl
    simp only[Pu]
    iterate 3 (refine rv ?_;simp only[Pu])
    iterate 3 (refine rs ?_;simp only[Pu])
    iterate 2 (refine rv ?_;simp only[Pu])
    iterate 3 (refine rs ?_;simp only[Pu])
    iterate 2 (refine rv ?_;simp only[Pu])
    iterate 13 (refine rs ?_;simp only[Pu])
    refine rv ?_;simp only[Pu]
    refine r_nil ?_
    intro w8 hw8
    have HW9:=Lib.hid hw8
    clear hw8
    go_wp2
    go_ret
    exact ⟨by rw[HM.out];rfl,(HG.out.trans HgB.out).trans HW9.out⟩
   by_cases m3:x2<1
   ·
    have HM:Hid (mayH ag xf l=false):=Lib.hid (HY.out.trans (mayS_step (by rw[nats_len];exact hlt) (by rw[Hst.out,one_no (by omega)];rfl)))
    have t1:¬x1<1:=by omega
    have t2:¬(16777216:Int)<x1:=by omega
    have t5:x2<1:=by omega
    have t3:decide (x1<1)=false:=decide_eq_false t1
    have t4:decide ((16777216:Int)<x1)=false:=decide_eq_false t2
    have t6:decide (x2<1)=true:=decide_eq_true t5
    clear Hst hlt m1 m2 m3
    refine region_R (by kernel_rfl) (by kernel_rfl) ?_
    refine rv ?_;simp only[Pu]
    refine r_val (v:=?qv27) (by kernel_rfl) (fun W hW=>?qh27) ?qr27
    case qh27=>have g:=(Below.cell hW (p:=⟨B4,0,none⟩) hz4).trans e0;go_light;go_simp;rfl
    simp only[Pu]
    iterate 3 (refine rv ?_;simp only[Pu])
    refine r_val (v:=?qv31) (by kernel_rfl) (fun W hW=>?qh31) ?qr31
    case qh31=>have g:=(Below.cell hW (p:=⟨B4,0,none⟩) hz4).trans e0;go_light;go_simp;rfl
    simp only[Pu]
    iterate 4 (refine rv ?_;simp only[Pu])
    refine r_val (v:=?qv36) (by kernel_rfl) (fun W hW=>?qh36) ?qr36
    case qh36=>have g:=(Below.cell hW (p:=⟨B4,1,none⟩) hz4).trans e1;go_light;go_simp;rfl
    simp only[Pu]
    iterate 3 (refine rv ?_;simp only[Pu])
    iterate 3 (refine rs ?_;simp only[Pu])
    iterate 2 (refine rv ?_;simp only[Pu])
    iterate 13 (refine rs ?_;simp only[Pu])
    refine rv ?_;simp only[Pu]
    refine r_nil ?_
    intro w8 hw8
    have HW9:=Lib.hid hw8
    clear hw8
    go_wp2
    go_ret
    exact ⟨by rw[HM.out];rfl,(HG.out.trans HgB.out).trans HW9.out⟩
   have t1:¬x1<1:=by omega
   have t2:¬(16777216:Int)<x1:=by omega
   have t5:¬x2<1:=by omega
   have t3:decide (x1<1)=false:=decide_eq_false t1
   have t4:decide ((16777216:Int)<x1)=false:=decide_eq_false t2
   have t6:decide (x2<1)=false:=decide_eq_false t5
   by_cases m4:16777216<x2
   ·
    have HM:Hid (mayH ag xf l=false):=Lib.hid (HY.out.trans (mayS_step (by rw[nats_len];exact hlt) (by rw[Hst.out,one_no (by omega)];rfl)))
    have t7:(16777216:Int)<x2:=by omega
    have t8:decide ((16777216:Int)<x2)=true:=decide_eq_true t7
    clear Hst hlt m1 m2 m3 m4
    refine region_R (by kernel_rfl) (by kernel_rfl) ?_
    refine rv ?_;simp only[Pu]
    refine r_val (v:=?qv44) (by kernel_rfl) (fun W hW=>?qh44) ?qr44
    case qh44=>have g:=(Below.cell hW (p:=⟨B4,0,none⟩) hz4).trans e0;go_light;go_simp;rfl
    simp only[Pu]
    iterate 3 (refine rv ?_;simp only[Pu])
    refine r_val (v:=?qv48) (by kernel_rfl) (fun W hW=>?qh48) ?qr48
    case qh48=>have g:=(Below.cell hW (p:=⟨B4,0,none⟩) hz4).trans e0;go_light;go_simp;rfl
    simp only[Pu]
    iterate 4 (refine rv ?_;simp only[Pu])
    refine r_val (v:=?qv53) (by kernel_rfl) (fun W hW=>?qh53) ?qr53
    case qh53=>have g:=(Below.cell hW (p:=⟨B4,1,none⟩) hz4).trans e1;go_light;go_simp;rfl
    simp only[Pu]
    iterate 4 (refine rv ?_;simp only[Pu])
    refine r_val (v:=?qv58) (by kernel_rfl) (fun W hW=>?qh58) ?qr58
    case qh58=>have g:=(Below.cell hW (p:=⟨B4,1,none⟩) hz4).trans e1;go_light;go_simp;rfl
    simp only[Pu]
    iterate 3 (refine rv ?_;simp only[Pu])
    iterate 13 (refine rs ?_;simp only[Pu])
    refine rv ?_;simp only[Pu]
    refine r_nil ?_
    intro w8 hw8
    have HW9:=Lib.hid hw8
    clear hw8
    go_wp2
    go_ret
    exact ⟨by rw[HM.out];rfl,(HG.out.trans HgB.out).trans HW9.out⟩
   have t7:¬(16777216:Int)<x2:=by omega
   have t8:decide ((16777216:Int)<x2)=false:=decide_eq_false t7
   obtain ⟨z1,rfl⟩:∃z:Nat,x1=z:=⟨x1.toNat,by omega⟩
   obtain ⟨z2,rfl⟩:∃z:Nat,x2=z:=⟨x2.toNat,by omega⟩
   have hst0:=Hst.out
   have hsT0:=HsT.out
   simp only[Int.toNat_natCast] at hst0 hsT0
   clear Hst HsT
   have Hst:=Lib.hid hst0
   have HsT:=Lib.hid hsT0
   clear hst0 hsT0
   have hone:oneOk (z1,z2)=true:=oneOk_iff.2 ⟨by simp only;omega,by simp only;omega,by simp only;omega,by simp only;omega⟩
   have Hone:=Lib.hid hone
   rcases k with _|j
   ·
    have HT:Hid (stepOk (nats l) 0=true):=Lib.hid (by rw[Hst.out,hone];rfl)
    clear hone m1 m2 m3 m4
    have zz1:decide ((0:Int)<((0:Nat):Int))=false:=by decide
    refine region_R (by kernel_rfl) (by kernel_rfl) ?_
    refine rv ?_;simp only[Pu]
    refine r_val (v:=?qv97) (by kernel_rfl) (fun W hW=>?qh97) ?qr97
    case qh97=>have g:=(Below.cell hW (p:=⟨B4,0,none⟩) hz4).trans e0;go_light;go_simp;rfl
    simp only[Pu]
    iterate 3 (refine rv ?_;simp only[Pu])
    refine r_val (v:=?qv101) (by kernel_rfl) (fun W hW=>?qh101) ?qr101
    case qh101=>have g:=(Below.cell hW (p:=⟨B4,0,none⟩) hz4).trans e0;go_light;go_simp;rfl
    simp only[Pu]
    iterate 4 (refine rv ?_;simp only[Pu])
    refine r_val (v:=?qv106) (by kernel_rfl) (fun W hW=>?qh106) ?qr106
    case qh106=>have g:=(Below.cell hW (p:=⟨B4,1,none⟩) hz4).trans e1;go_light;go_simp;rfl
    simp only[Pu]
    iterate 4 (refine rv ?_;simp only[Pu])
    refine r_val (v:=?qv111) (by kernel_rfl) (fun W hW=>?qh111) ?qr111
    case qh111=>have g:=(Below.cell hW (p:=⟨B4,1,none⟩) hz4).trans e1;go_light;go_simp;rfl
    simp only[Pu]
    iterate 6 (refine rv ?_;simp only[Pu])
    iterate 9 (refine rs ?_;simp only[Pu])
    iterate 2 (refine rv ?_;simp only[Pu])
    refine r_nil ?_
    intro w8 hw8
    have e1a:=(Below.cell hw8 (p:=⟨B4,1,none⟩) hz4).trans e1
    have hz8:=Nat.lt_of_lt_of_le hz4 hw8.size
    have c2a:=(Below.cell hw8 (p:=⟨w.heap.size,2,none⟩) hzw).trans c2
    have H8w:=Lib.hid (HgB.out.trans hw8)
    clear e0 e1 c2 hz4 hw8
    have hs:=HsT.out
    obtain ⟨N,hN⟩:∃N,N=sizeS ((nats l).take (0)):=⟨_,rfl⟩
    rw[←hN] at hs hsz ⊢
    have HS:=Lib.hid hs
    have hNi:(N:Int)≤1048576:=by omega
    have hx2i:(z2:Int)≤16777216:=by omega
    clear hN hs hsz
    by_cases big:N+(12+12*z2)≤1048576
    ·
     have big1:¬(1048576:Int)<(N:Int)+12+12*(z2:Int):=by omega
     go_wp2
     go_roundw
     case rel=>exact ⟨0+1,by omega,by go_num,by rw[HS.out];go_num,by rw[HS.out];exact big,(fun i hi=>by rcases Nat.lt_succ_iff_lt_or_eq.1 hi with h|h;exact Hall.out i h;rw[h];exact HT.out),H8w.out⟩
     case measure=>simp[intOf];omega
    ·
     have big1:(1048576:Int)<(N:Int)+12+12*(z2:Int):=by omega
     have HM:Hid (mayH ag xf l=false):=Lib.hid (HY.out.trans (mayS_size (Nat.lt_of_lt_of_le (by rw[HS.out];omega) (sizeS_mono (nats l) (0+1)))))
     clear big
     go_wp2
     go_ret
     exact ⟨by rw[HM.out];rfl,HG.out.trans H8w.out⟩
   ·
    have hj:j<l.length:=by omega
    obtain ⟨p0,p1⟩:=Hc'.out j hj
    have hjn:j<(nats l).length:=by rw[nats_len];exact hj
    have hone1:oneOk (nats l)[j]=true:=by
     have:=Hall.out j (Nat.lt_succ_self _)
     rw[stepOk_at hjn,Bool.and_eq_true] at this
     exact this.1
    rw[nats_one hj hjn hone1] at p0 p1
    obtain ⟨y,hy⟩:∃y,y=(nats l)[j]:=⟨_,rfl⟩
    have hst:=Hst.out
    simp only[Nat.add_sub_cancel] at hst
    rw[←hy] at hone1 p0 p1 hst
    obtain ⟨F,hF⟩:∃F,F=fitsS y (z1,z2):=⟨_,rfl⟩
    have hst2:stepOk (nats l) (j+1)=F:=by rw[hst,hone,hF];simp
    have hcall:=fun W=>rside_any y (z1,z2) hone1 hone W
    rw[←hF] at hcall
    obtain ⟨y1,y2⟩:=y
    simp only at p0 p1 hcall
    have HCALL:=Lib.hid hcall
    have HST:=Lib.hid hst2
    have zz1:decide ((0:Int)<(j:Int)+1)=true:=by rw[decide_eq_true_eq];omega
    have zz2:(0:Int)<(j:Int)+1:=by omega
    have hji:(j:Int)≤400:=by omega
    have zw:IntKind.i64.wrap (j:Int)=(j:Int):=IntWalk.i64_in (j:Int) (by omega)
    have hjl:(j:Int)<(l.length:Int):=by omega
    clear hone hone1 hF hst hst2 hcall hy hj hjn m1 m2 m3 m4
    cases F with
    | false=>
     have HM:Hid (mayH ag xf l=false):=Lib.hid (HY.out.trans (mayS_step (by rw[nats_len];exact hlt) HST.out))
     clear Hst hlt
     refine region_R (by kernel_rfl) (by kernel_rfl) ?_
     refine rv ?_;simp only[Pu]
     refine r_val (v:=?qv64) (by kernel_rfl) (fun W hW=>?qh64) ?qr64
     case qh64=>have g:=(Below.cell hW (p:=⟨B4,0,none⟩) hz4).trans e0;go_light;go_simp;rfl
     simp only[Pu]
     iterate 3 (refine rv ?_;simp only[Pu])
     refine r_val (v:=?qv68) (by kernel_rfl) (fun W hW=>?qh68) ?qr68
     case qh68=>have g:=(Below.cell hW (p:=⟨B4,0,none⟩) hz4).trans e0;go_light;go_simp;rfl
     simp only[Pu]
     iterate 4 (refine rv ?_;simp only[Pu])
     refine r_val (v:=?qv73) (by kernel_rfl) (fun W hW=>?qh73) ?qr73
     case qh73=>have g:=(Below.cell hW (p:=⟨B4,1,none⟩) hz4).trans e1;go_light;go_simp;rfl
     simp only[Pu]
     iterate 4 (refine rv ?_;simp only[Pu])
     refine r_val (v:=?qv78) (by kernel_rfl) (fun W hW=>?qh78) ?qr78
     case qh78=>have g:=(Below.cell hW (p:=⟨B4,1,none⟩) hz4).trans e1;go_light;go_simp;rfl
     simp only[Pu]
     iterate 7 (refine rv ?_;simp only[Pu])
     refine r_val (v:=?qv86) (by kernel_rfl) (fun W hW=>?qh86) ?qr86
     case qh86=>have g:=(Below.cell hW (p:=⟨w.heap.size,2,none⟩) hzw).trans c2;go_light;go_simp;rfl
     simp only[Pu]
     iterate 3 (refine rv ?_;simp only[Pu])
     refine r_val (v:=?qv90) (by kernel_rfl) (fun W hW=>?qh90) ?qr90
     case qh90=>have g:=(Below.cell hW (p:=ad.add (j*2)) (hbw _)).trans p0;have g2:=(Below.cell hW (p:=⟨(ad.add (j*2)).block,(ad.add (j*2)).off+1,none⟩) (hbw _)).trans p1;go_light;go_simp;rfl
     simp only[Pu]
     refine r_val (v:=?qv91) (by kernel_rfl) (fun W hW=>?qh91) ?qr91
     case qh91=>have g:=(Below.cell hW (p:=⟨B4,0,none⟩) hz4).trans e0;have g2:=(Below.cell hW (p:=⟨B4,1,none⟩) hz4).trans e1;go_light;go_simp;rfl
     simp only[Pu]
     refine r_call (v:= .bool false) (f:=?qf92) (args:=?qa92) (by kernel_rfl) (fun W hW=>?qh92) (fun W hW=>?qc92) ?qr92
     case qh92=>go_light;go_simp;constructor<;>rfl
     case qc92=>exact (HCALL.out _).mono (fun e w' h=>⟨h.1,Gr.trans hW h.2⟩)
     simp only[Pu]
     iterate 3 (refine rv ?_;simp only[Pu])
     refine r_nil ?_
     intro w8 hw8
     have HW9:=Lib.hid hw8
     clear hw8
     go_wp2
     go_ret
     exact ⟨by rw[HM.out];rfl,(HG.out.trans HgB.out).trans HW9.out⟩
    | true=>
     refine region_R (by kernel_rfl) (by kernel_rfl) ?_
     refine rv ?_;simp only[Pu]
     refine r_val (v:=?qv121) (by kernel_rfl) (fun W hW=>?qh121) ?qr121
     case qh121=>have g:=(Below.cell hW (p:=⟨B4,0,none⟩) hz4).trans e0;go_light;go_simp;rfl
     simp only[Pu]
     iterate 3 (refine rv ?_;simp only[Pu])
     refine r_val (v:=?qv125) (by kernel_rfl) (fun W hW=>?qh125) ?qr125
     case qh125=>have g:=(Below.cell hW (p:=⟨B4,0,none⟩) hz4).trans e0;go_light;go_simp;rfl
     simp only[Pu]
     iterate 4 (refine rv ?_;simp only[Pu])
     refine r_val (v:=?qv130) (by kernel_rfl) (fun W hW=>?qh130) ?qr130
     case qh130=>have g:=(Below.cell hW (p:=⟨B4,1,none⟩) hz4).trans e1;go_light;go_simp;rfl
     simp only[Pu]
     iterate 4 (refine rv ?_;simp only[Pu])
     refine r_val (v:=?qv135) (by kernel_rfl) (fun W hW=>?qh135) ?qr135
     case qh135=>have g:=(Below.cell hW (p:=⟨B4,1,none⟩) hz4).trans e1;go_light;go_simp;rfl
     simp only[Pu]
     iterate 7 (refine rv ?_;simp only[Pu])
     refine r_val (v:=?qv143) (by kernel_rfl) (fun W hW=>?qh143) ?qr143
     case qh143=>have g:=(Below.cell hW (p:=⟨w.heap.size,2,none⟩) hzw).trans c2;go_light;go_simp;rfl
     simp only[Pu]
     iterate 3 (refine rv ?_;simp only[Pu])
     refine r_val (v:=?qv147) (by kernel_rfl) (fun W hW=>?qh147) ?qr147
     case qh147=>have g:=(Below.cell hW (p:=ad.add (j*2)) (hbw _)).trans p0;have g2:=(Below.cell hW (p:=⟨(ad.add (j*2)).block,(ad.add (j*2)).off+1,none⟩) (hbw _)).trans p1;go_light;go_simp;rfl
     simp only[Pu]
     refine r_val (v:=?qv148) (by kernel_rfl) (fun W hW=>?qh148) ?qr148
     case qh148=>have g:=(Below.cell hW (p:=⟨B4,0,none⟩) hz4).trans e0;have g2:=(Below.cell hW (p:=⟨B4,1,none⟩) hz4).trans e1;go_light;go_simp;rfl
     simp only[Pu]
     refine r_call (v:= .bool true) (f:=?qf149) (args:=?qa149) (by kernel_rfl) (fun W hW=>?qh149) (fun W hW=>?qc149) ?qr149
     case qh149=>go_light;go_simp;constructor<;>rfl
     case qc149=>exact (HCALL.out _).mono (fun e w' h=>⟨h.1,Gr.trans hW h.2⟩)
     simp only[Pu]
     iterate 3 (refine rv ?_;simp only[Pu])
     refine r_nil ?_
     intro w8 hw8
     have e1a:=(Below.cell hw8 (p:=⟨B4,1,none⟩) hz4).trans e1
     have hz8:=Nat.lt_of_lt_of_le hz4 hw8.size
     have c2a:=(Below.cell hw8 (p:=⟨w.heap.size,2,none⟩) hzw).trans c2
     have H8w:=Lib.hid (HgB.out.trans hw8)
     clear e0 e1 c2 hz4 hw8
     have hs:=HsT.out
     obtain ⟨N,hN⟩:∃N,N=sizeS ((nats l).take (j+1)):=⟨_,rfl⟩
     rw[←hN] at hs hsz ⊢
     have HS:=Lib.hid hs
     have hNi:(N:Int)≤1048576:=by omega
     have hx2i:(z2:Int)≤16777216:=by omega
     clear hN hs hsz
     by_cases big:N+(12+12*z2)≤1048576
     ·
      have big1:¬(1048576:Int)<(N:Int)+12+12*(z2:Int):=by omega
      go_wp2
      go_roundw
      case rel=>exact ⟨j+1+1,by omega,by go_num,by rw[HS.out];go_num,by rw[HS.out];exact big,(fun i hi=>by rcases Nat.lt_succ_iff_lt_or_eq.1 hi with h|h;exact Hall.out i h;rw[h];exact HST.out),H8w.out⟩
      case measure=>simp[intOf];omega
     ·
      have big1:(1048576:Int)<(N:Int)+12+12*(z2:Int):=by omega
      have HM:Hid (mayH ag xf l=false):=Lib.hid (HY.out.trans (mayS_size (Nat.lt_of_lt_of_le (by rw[HS.out];omega) (sizeS_mono (nats l) (j+1+1)))))
      clear big
      go_wp2
      go_ret
      exact ⟨by rw[HM.out];rfl,HG.out.trans H8w.out⟩
  ·
   have hkk:k=l.length:=by omega
   subst hkk
   have hx:=H8.out.1
   obtain ⟨m,hm⟩:∃m,l.length=m+1:=⟨l.length-1,by omega⟩
   have hml:m<l.length:=by omega
   obtain ⟨ad,rfl,hb,hc⟩:=(HR.out.gr hgr) hx
   obtain ⟨d0,d1⟩:=hc m hml
   have hmn:m<(nats l).length:=by rw[nats_len];exact hml
   have hone:∀j (h:j<(nats l).length),oneOk (nats l)[j]=true:=fun j h=>by
    have:=Hall.out j (by rw[nats_len] at h;exact h)
    rw[stepOk_at h,Bool.and_eq_true] at this
    exact this.1
   have hszn:sizeS (nats l)≤1048576:=by
    rw[List.take_of_length_le (by rw[nats_len];exact Nat.le_refl _)] at hsz
    exact hsz
   obtain ⟨L,hL⟩:∃L,L=nats l:=⟨_,rfl⟩
   have hlast:lastS L=L[m]'(by rw[hL];exact hmn):=by rw[lastS_at (by rw[hL,nats_len];exact hx)];congr 1;rw[hL,nats_len];omega
   have hol:=oneOk_iff.1 (hone m hmn)
   have hrest:=mayS_rest (l:=nats l) (by rw[nats_len];exact hx) (by rw[nats_len];exact H8.out.2) (fun k hk=>Hall.out k (by rw[nats_len] at hk;exact hk)) hszn
   rw[nats_one hml hmn (hone m hmn)] at d0 d1
   simp only[←hL] at hol hrest d0 d1
   rw[hlast] at hrest
   obtain ⟨x1,hx1⟩:∃x,x=(L[m]'(by rw[hL];exact hmn)).1:=⟨_,rfl⟩
   obtain ⟨x2,hx2⟩:∃x,x=(L[m]'(by rw[hL];exact hmn)).2:=⟨_,rfl⟩
   rw[←hx1] at d0 hol hrest
   rw[←hx2] at d1 hol hrest
   have hw:=prod_small (x1:Int) x2 (by omega) (by omega) (by omega) (by omega)
   have HYL:Hid (mayH ag xf l=mayS L):=Lib.hid (by rw[hL];exact HY.out)
   have Hrest:=Lib.hid hrest
   clear hx1 hx2 hlast hone hol hrest hc hx hL hmn hszn
   rw[hm] at c2 ⊢
   have hmi:(m:Int)≤400:=by omega
   have zm:IntKind.i64.wrap (m:Int)=(m:Int):=IntWalk.i64_in (m:Int) (by omega)
   clear hlt h1 h2 hml
   go_upto_region 14 with (fail)
   obtain ⟨wC,hwC⟩:∃wC,wC=wr.alloc (.cells #[.int .i64 x1, .int .i64 x2] 69):=⟨_,rfl⟩
   have gC:Gr wr wC:=by rw[hwC];exact Gr.alloc (Gr.refl wr) _
   have hz5:wr.heap.size<wC.heap.size:=by rw[hwC];simp
   have e0:wC.cell? ⟨wr.heap.size,0,none⟩=some (.int .i64 x1):=by rw[hwC];go_simp
   have e1:wC.cell? ⟨wr.heap.size,1,none⟩=some (.int .i64 x2):=by rw[hwC];go_simp
   rw[←hwC]
   have c0':=(Below.cell (hgr.trans gC) (p:=⟨w.heap.size,0,none⟩) hz).trans c0
   have c1':=(Below.cell (hgr.trans gC) (p:=⟨w.heap.size,1,none⟩) hz).trans c1
   have c2':=(Below.cell gC (p:=⟨w.heap.size,2,none⟩) hzw).trans c2
   have HGC:=Lib.hid (hgr.trans gC)
   generalize wr.heap.size=B5 at hz5 e0 e1 ⊢
   clear hwC gC c0 c1 c2 d0 d1 hb
   have hM:=Hrest.out
   clear hm hgr hsz
   by_cases u1:x1*x2≤maxTime
   ·
    have u2:(x1:Int)*(x2:Int)≤4294967295:=by rw[←Int.natCast_mul];unfold maxTime at u1;omega
    have u3:decide ((x1:Int)*(x2:Int)≤4294967295)=true:=decide_eq_true u2
    have HM:Hid (mayH ag xf l=true):=Lib.hid (by rw[HYL.out,hM,Nat.ble_eq];exact u1)
    clear u1 hM
    go_wp2
    go_ret
    exact ⟨ret_b (by rw[HM.out]),HG.out.trans HGC.out⟩
   ·
    have u2:¬(x1:Int)*(x2:Int)≤4294967295:=by rw[←Int.natCast_mul];unfold maxTime at u1;omega
    have u3:decide ((x1:Int)*(x2:Int)≤4294967295)=false:=decide_eq_false u2
    have HM:Hid (mayH ag xf l=false):=Lib.hid (by rw[HYL.out,hM,Bool.eq_false_iff,ne_eq,Nat.ble_eq];exact u1)
    clear u1 hM
    go_wp2
    go_ret
    exact ⟨ret_b (by rw[HM.out]),HG.out.trans HGC.out⟩
theorem rhoff_any (ag xf:Nat) (A:Option Addr) (c:Nat) (m:Arcs) (hM:mayH ag xf (ints m)=true) (i:Nat) (hi:i<m.length) (w:World) (hr:Ri w A (ints m)):Calls Tryz.prog 59 #[.agg #[.int .i64 ag, .int .i64 xf, .slice A m.length c], .int .i64 i] w fun e w'=>e= .returned (.int .i64 (offS m i:Nat))∧Gr w w':=by
 obtain ⟨V,hV⟩:∃V,V=w.alloc (.cells #[.int .i64 ag, .int .i64 xf, .slice A m.length c] 24):=⟨_,rfl⟩
 have gV:Gr w V:=by rw[hV];exact Gr.alloc (Gr.refl w) _
 have hz:w.heap.size<V.heap.size:=by rw[hV];simp
 have c0:V.cell? ⟨w.heap.size,0,none⟩=some (.int .i64 ag):=by rw[hV];go_simp
 have c1:V.cell? ⟨w.heap.size,1,none⟩=some (.int .i64 xf):=by rw[hV];go_simp
 have c2:V.cell? ⟨w.heap.size,2,none⟩=some (.slice A m.length c):=by rw[hV];go_simp
 have HV:=Lib.hid hV
 have HG:=Lib.hid gV
 have HR:=Lib.hid (hr.gr gV)
 have hck:=fun W (hW:Ri W A (ints m))=>rmay_any ag xf A c (ints m) W hW
 rw[ints_len,hM] at hck
 have HCK:=Lib.hid hck
 have hF:=MayF.ofH hM
 have HF:=Lib.hid hF
 clear hV gV hck
 have h8:(m.length:Int)≤8:=by have:=hF.l8;omega
 have q1:¬(i:Int)<0:=by omega
 have q2:¬(m.length:Int)≤(i:Int):=by omega
 have q3:¬m.length≤i:=by omega
 have hii:(i:Int)<(m.length:Int):=by omega
 clear hF hr
 go_enter Tryz.func59,Tryz.ntmps59
 go_upto_region 1 with (fail)
 rw[←HV.out]
 clear HV
 go_wp2_with (go_at_call 6;refine (HCK.out _ HR.out).mono ?_;rintro e w1 ⟨rfl,g1⟩;have d0:=(Below.cell g1 (p:=⟨w.heap.size,0,none⟩) hz).trans c0;have d1:=(Below.cell g1 (p:=⟨w.heap.size,1,none⟩) hz).trans c1;have d2:=(Below.cell g1 (p:=⟨w.heap.size,2,none⟩) hz).trans c2;have hz1:=Nat.lt_of_lt_of_le hz g1.size;have HG1:=Lib.hid (HG.out.trans g1);have HR1:=Lib.hid (HR.out.gr g1);clear c0 c1 c2 hz g1)
 go_loopw [6,5] (fun j n wr=>∃k:Nat,k≤i∧j= .int .i64 k∧n= .int .i64 (offS m k:Nat)∧Gr w1 wr) (fun j _ _=>i-(intOf j).toNat)
 case atStart=>exact ⟨0,Nat.zero_le _,rfl,by unfold offS;simp,Gr.refl _⟩
 case round=>
  obtain ⟨k,hk,rfl,rfl,hgr⟩:=hrel
  have e2:=(Below.cell hgr (p:=⟨w.heap.size,2,none⟩) hz1).trans d2
  by_cases hlt:k<i
  ·
   have hlti:(k:Int)<(i:Int):=by omega
   have hkm:k<m.length:=by omega
   have hkmi:(k:Int)<(m.length:Int):=by omega
   obtain ⟨ad,rfl,hb,hc⟩:=(HR1.out.gr hgr) (by rw[ints_len];omega)
   obtain ⟨p0,p1⟩:=hc k (by rw[ints_len];exact hkm)
   rw[ints_at m k hkm] at p0 p1
   simp only at p0 p1
   have hs:=offS_succ hkm
   have hle:=offS_le (m:=m) (i:=k+1) (by omega)
   have hsz:=HF.out.sz
   have HS:=Lib.hid hs
   have Hgr:=Lib.hid hgr
   generalize m[k].1=x1 at *
   generalize m[k].2=x2 at *
   obtain ⟨N,hN⟩:∃N,N=offS m k:=⟨_,rfl⟩
   rw[←hN] at HS hs ⊢
   have hNi:(N:Int)+12*(x2:Int)≤2000000000:=by omega
   clear hc hs hle hsz hgr hN d0 d1 d2
   go_wp2
   go_roundw
   case rel=>exact ⟨k+1,by omega,by go_num,by rw[HS.out];go_num,gq⟩
   case measure=>simp[intOf];omega
  ·
   have hkk:k=i:=by omega
   subst hkk
   have HK:=Lib.hid hgr
   clear hgr d0 d1 d2
   go_wp2
   go_ret
   exact ⟨rfl,HG1.out.trans HK.out⟩
theorem rhspan_any (ag xf:Nat) (A:Option Addr) (c:Nat) (m:Arcs) (hM:mayH ag xf (ints m)=true) (w:World) (hr:Ri w A (ints m)):Calls Tryz.prog 72 #[.agg #[.int .i64 ag, .int .i64 xf, .slice A m.length c]] w fun e w'=>e= .returned (.int .i64 (spanS m:Nat))∧Gr w w':=by
 obtain ⟨V,hV⟩:∃V,V=w.alloc (.cells #[.int .i64 ag, .int .i64 xf, .slice A m.length c] 24):=⟨_,rfl⟩
 have gV:Gr w V:=by rw[hV];exact Gr.alloc (Gr.refl w) _
 have hz:w.heap.size<V.heap.size:=by rw[hV];simp
 have c0:V.cell? ⟨w.heap.size,0,none⟩=some (.int .i64 ag):=by rw[hV];go_simp
 have c1:V.cell? ⟨w.heap.size,1,none⟩=some (.int .i64 xf):=by rw[hV];go_simp
 have c2:V.cell? ⟨w.heap.size,2,none⟩=some (.slice A m.length c):=by rw[hV];go_simp
 have HV:=Lib.hid hV
 have HG:=Lib.hid gV
 have HR:=Lib.hid (hr.gr gV)
 have hck:=fun W (hW:Ri W A (ints m))=>rmay_any ag xf A c (ints m) W hW
 rw[ints_len,hM] at hck
 have HCK:=Lib.hid hck
 have hF:=MayF.ofH hM
 have HF:=Lib.hid hF
 clear hV gV hck
 obtain ⟨k,hk⟩:∃k,m.length=k+1:=⟨m.length-1,by have:=hF.l1;omega⟩
 obtain ⟨ad,rfl,hb,hc⟩:=HR.out (by rw[ints_len];omega)
 obtain ⟨p0,p1⟩:=hc k (by rw[ints_len];omega)
 rw[ints_at m k (by omega)] at p0 p1
 simp only at p0 p1
 have hs1:=hF.s1 k (by omega)
 have hc1:=hF.c1 k (by omega)
 have hsp:spanS m=m[k].1*m[k].2:=by unfold spanS;rw[lastS_at hF.l1];congr 2<;>(congr 1;omega)
 rw[stpS_at (by omega)] at hs1
 rw[cntS_at (by omega)] at hc1
 have hk8:(k:Int)≤8:=by have:=hF.l8;omega
 obtain ⟨x1,hx1⟩:∃x,x=(m[k]'(by omega)).1:=⟨_,rfl⟩
 obtain ⟨x2,hx2⟩:∃x,x=(m[k]'(by omega)).2:=⟨_,rfl⟩
 rw[←hx1] at p0 hs1 hsp
 rw[←hx2] at p1 hc1 hsp
 have hw:=prod_small (x1:Int) x2 (by omega) (by omega) (by omega) (by omega)
 have zk:IntKind.i64.wrap (k:Int)=(k:Int):=IntWalk.i64_in (k:Int) (by omega)
 have HB:=Lib.hid (And.intro hb (And.intro p0 p1))
 have HSP:=Lib.hid hsp
 rw[hk] at c2 HCK HV ⊢
 have hbk:∀z,(ad.add z).block<V.heap.size:=fun z=>by rw[adB];exact hb
 clear hx1 hx2 hF hr hc hb hs1 hc1 hsp hk
 go_enter Tryz.func72,Tryz.ntmps72
 go_upto_region 1 with (fail)
 rw[←HV.out]
 clear HV
 go_wp2_with (go_at_call 6;refine (HCK.out _ HR.out).mono ?_;rintro e w1 ⟨rfl,g1⟩;have u0:=(Below.cell g1 (p:=ad.add (k*2)) (hbk _)).trans p0;have u1:=(Below.cell g1 (p:=⟨(ad.add (k*2)).block,(ad.add (k*2)).off+1,none⟩) (hbk _)).trans p1;have d0:=(Below.cell g1 (p:=⟨w.heap.size,0,none⟩) hz).trans c0;have d1:=(Below.cell g1 (p:=⟨w.heap.size,1,none⟩) hz).trans c1;have d2:=(Below.cell g1 (p:=⟨w.heap.size,2,none⟩) hz).trans c2;have hz1:=Nat.lt_of_lt_of_le hz g1.size;have HG1:=Lib.hid (HG.out.trans g1);have HR1:=Lib.hid (HR.out.gr g1);clear c0 c1 c2 hz g1;clear p0 p1)
 go_ret
 exact ⟨ret_i (by rw[HSP.out];go_num),gq⟩
theorem bys_four (n:Nat) (hn:n≤4294967295):bys (beB n 4)=[.int .u8 ((n:Int)/16777216), .int .u8 ((n:Int)/65536%256), .int .u8 ((n:Int)/256%256), .int .u8 ((n:Int)%256)]:=by
 have h0:n/256^3%256=n/16777216:=by rw[show (256:Nat)^3=16777216 from rfl];omega
 unfold bys beB beB beB beB beB
 simp only[List.map_cons,List.map_nil,toNat_mod]
 rw[h0,show (256:Nat)^2=65536 from rfl,show (256:Nat)^1=256 from rfl,show (256:Nat)^0=1 from rfl,Nat.div_one]
 simp
theorem xfour_any (n:Nat) (hn:n≤4294967295) (w:World):Calls Tryz.prog 73 #[.int .i64 (n:Nat)] w fun e w'=>e= .returned (.slice (some ⟨w.heap.size,0,none⟩) 4 4)∧w'=w.alloc (.cells (bys (beB n 4)).toArray 5):=by
 have hni:(n:Int)≤4294967295:=by omega
 have HB:=Lib.hid (bys_four n hn)
 go_enter Tryz.func73,Tryz.ntmps73
 go_wp2
 go_ret
 exact ⟨rfl,by rw[HB.out]⟩
theorem add_at (a:Addr) (k:Nat):a.add (k+1)=⟨a.block,a.off+(k+1),none⟩:=by
 have h:=add_next a 0 k
 rw[Nat.zero_add,show a.add 0=a from by unfold Addr.add;simp] at h
 exact h
theorem i64_or_nat (a b:Nat) (ha:a<4611686018427387904) (hb:b<4611686018427387904):bits .or .i64 (a:Int) (b:Int)=((a ||| b:Nat):Int):=by
 have hx:a ||| b<2^62:=Nat.or_lt_two_pow (by omega) (by omega)
 have h1:(BitVec.ofInt 64 (a:Int)).toNat=a:=by
  rw[BitVec.ofInt_natCast,BitVec.toNat_ofNat];exact Nat.mod_eq_of_lt (by omega)
 have h2:(BitVec.ofInt 64 (b:Int)).toNat=b:=by
  rw[BitVec.ofInt_natCast,BitVec.toNat_ofNat];exact Nat.mod_eq_of_lt (by omega)
 show IntKind.i64.wrap ((BitVec.ofInt 64 (a:Int) ||| BitVec.ofInt 64 (b:Int)).toNat:Int)=_
 rw[BitVec.toNat_or,h1,h2]
 exact IntWalk.i64_in _ (by omega)
theorem mul_or (a b i m:Nat) (hm:m=2^i) (h:a<m):(b*m) ||| a=b*m+a:=by
 subst hm
 rw[←Nat.shiftLeft_eq,Nat.shiftLeft_add_eq_or_of_lt h]
theorem i64_or (b a i m:Nat) (hm:m=2^i) (h:a<m) (hb:b*m<4611686018427387904) (ha:a<4611686018427387904):bits .or .i64 (((b*m:Nat)):Int) (a:Int)=((b*m+a:Nat):Int):=by
 rw[i64_or_nat _ _ hb ha,mul_or a b i m hm h]
theorem ofB_four {l:List UInt8} (h:4≤l.length):((ofB (l.take 4):Nat):Int)=((l[0].toNat:Int)*16777216+(l[1].toNat:Int)*65536+(l[2].toNat:Int)*256+(l[3].toNat:Int)):=by
 have e:l.take 4=[l[0],l[1],l[2],l[3]]:=by
  match l,h with
  | a::b::c::d::r,_=>rfl
 rw[e]
 simp only[ofB,List.foldl_cons,List.foldl_nil]
 omega
theorem xfrom_any (A:Option Addr) (c:Nat) (l:List UInt8) (hl:4≤l.length) (hl2:(l.length:Int)≤1073741824) (w:World) (hr:Rb w A l):Calls Tryz.prog 82 #[.slice A l.length c] w fun e w'=>e= .returned (.int .i64 (ofB (l.take 4):Nat))∧Gr w w':=by
 have hE:=ofB_four hl
 obtain ⟨ad,rfl,hab,hac⟩:=hr.2 (by omega)
 have p0:=hac 0 _ (bys_at l 0 (by omega))
 rw[show ad.add 0=ad from by unfold Addr.add;simp] at p0
 have p1:=hac 1 _ (bys_at l 1 (by omega))
 have p2:=hac 2 _ (bys_at l 2 (by omega))
 have p3:=hac 3 _ (bys_at l 3 (by omega))
 rw[add_at] at p1 p2 p3
 have b0:=l[0].toNat_lt
 have b1:=l[1].toNat_lt
 have b2:=l[2].toNat_lt
 have b3:=l[3].toNat_lt
 rw[hE]
 generalize l[0].toNat=x0 at *
 generalize l[1].toNat=x1 at *
 generalize l[2].toNat=x2 at *
 generalize l[3].toNat=x3 at *
 have c0:(0:Int)≤(x0:Int)∧(x0:Int)≤255:=by omega
 have c1:(0:Int)≤(x1:Int)∧(x1:Int)≤255:=by omega
 have c2:(0:Int)≤(x2:Int)∧(x2:Int)≤255:=by omega
 have c3:(0:Int)≤(x3:Int)∧(x3:Int)≤255:=by omega
 have j0:0<l.length:=by omega
 have j1:1<l.length:=by omega
 have j2:2<l.length:=by omega
 have j3:3<l.length:=by omega
 have i0:(0:Int)<(l.length:Int):=by omega
 have i1:(1:Int)<(l.length:Int):=by omega
 have i2:(2:Int)<(l.length:Int):=by omega
 have i3:(3:Int)<(l.length:Int):=by omega
 have w0:IntKind.i64.wrap (x0:Int)=(x0:Int):=IntWalk.i64_in _ (by omega)
 have w1:IntKind.i64.wrap (x1:Int)=(x1:Int):=IntWalk.i64_in _ (by omega)
 have w2:IntKind.i64.wrap (x2:Int)=(x2:Int):=IntWalk.i64_in _ (by omega)
 have w3:IntKind.i64.wrap (x3:Int)=(x3:Int):=IntWalk.i64_in _ (by omega)
 have v0:IntKind.i64.wrap ((x0:Int)*16777216)=(x0:Int)*16777216:=IntWalk.i64_in _ (by omega)
 have v1:IntKind.i64.wrap ((x1:Int)*65536)=(x1:Int)*65536:=IntWalk.i64_in _ (by omega)
 have v2:IntKind.i64.wrap ((x2:Int)*256)=(x2:Int)*256:=IntWalk.i64_in _ (by omega)
 have o1:bits .or .i64 ((x0:Int)*16777216) ((x1:Int)*65536)=(x0:Int)*16777216+(x1:Int)*65536:=by
  have:=i64_or x0 (x1*65536) 24 16777216 (by decide) (by omega) (by omega) (by omega)
  simpa using this
 have o2:bits .or .i64 ((x0:Int)*16777216+(x1:Int)*65536) ((x2:Int)*256)=(x0:Int)*16777216+(x1:Int)*65536+(x2:Int)*256:=by
  have:=i64_or (x0*256+x1) (x2*256) 16 65536 (by decide) (by omega) (by omega) (by omega)
  rw[show (x0*256+x1)*65536=x0*16777216+x1*65536 by omega] at this
  simpa using this
 have o3:bits .or .i64 ((x0:Int)*16777216+(x1:Int)*65536+(x2:Int)*256) (x3:Int)=(x0:Int)*16777216+(x1:Int)*65536+(x2:Int)*256+(x3:Int):=by
  have:=i64_or (x0*65536+x1*256+x2) x3 8 256 (by decide) (by omega) (by omega) (by omega)
  rw[show (x0*65536+x1*256+x2)*256=x0*16777216+x1*65536+x2*256 by omega] at this
  simpa using this
 clear hE hr hac b0 b1 b2 b3
 go_enter Tryz.func82,Tryz.ntmps82
 go_upto_region 1 with (fail)
 refine region_Q (by kernel_rfl) (by kernel_rfl) ?_
 iterate 2 (refine qv ?_;simp only[Pu])
 refine q_val (v:=?qv3) (by rfl) (fun W hW=>?qh3) ?qr3
 case qh3=>have e:=(Below.cell hW (p:=ad) hab).trans p0;go_simp;rfl
 simp only[Pu]
 iterate 4 (refine qv ?_;simp only[Pu])
 refine q_val (v:=?qv8) (by rfl) (fun W hW=>?qh8) ?qr8
 case qh8=>have e:=(Below.cell hW (p:=⟨ad.block,ad.off+1,none⟩) hab).trans p1;go_simp;rfl
 simp only[Pu]
 iterate 5 (refine qv ?_;simp only[Pu])
 refine q_val (v:=?qv14) (by rfl) (fun W hW=>?qh14) ?qr14
 case qh14=>have e:=(Below.cell hW (p:=⟨ad.block,ad.off+2,none⟩) hab).trans p2;go_simp;rfl
 simp only[Pu]
 iterate 5 (refine qv ?_;simp only[Pu])
 refine q_val (v:=?qv20) (by rfl) (fun W hW=>?qh20) ?qr20
 case qh20=>have e:=(Below.cell hW (p:=⟨ad.block,ad.off+3,none⟩) hab).trans p3;go_simp;rfl
 simp only[Pu]
 iterate 3 (refine qv ?_;simp only[Pu])
 refine wpQuiet_nil ?_
 intro w8 hw8
 go_wp2
 go_ret
 exact ⟨rfl,hw8⟩
end Go.Proofs.YtoncapkmaeghfaaGreat
