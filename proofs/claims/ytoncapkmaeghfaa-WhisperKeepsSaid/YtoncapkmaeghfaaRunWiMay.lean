import Derived.Test.YtoncapkmaeghfaaRunWiFet
import Derived.Test.YtoncapkmaeghfaaRunFxBase
import Derived.Test.YtoncapkmaeghfaaRunWiHdr
import Derived.Test.YtoncapkmaeghfaaRunVfFs
import Derived.Test.YtoncapkmaeghfaaRunFxMul
import Derived.Test.YtoncapkmaeghfaaRunWhHdr
import Derived.Test.YtoncapkmaeghfaaRunVfWat
import Derived.Laws.MakeOwn
set_option linter.all false
set_option maxRecDepth 1000000
set_option maxHeartbeats 12800000
namespace Go.Proofs.Ytoncapkmaeghfaa
open Go.RowKit
theorem rmay_any (ag xf:Int) (A:Option Addr) (c:Nat) (l:List (Int×Int)) (w:World) (hr:Ri w A l):Calls Try.prog 18 #[.agg #[.int .i64 ag, .int .i64 xf, .slice A l.length c]] w fun e w'=>e= .returned (.bool (mayH ag xf l))∧Gr w w':=by
 obtain ⟨V,hV⟩:∃V,V=w.alloc (.cells #[.int .i64 ag, .int .i64 xf, .slice A l.length c] 24):=⟨_,rfl⟩
 have gV:Gr w V:=by rw[hV];exact Gr.alloc (Gr.refl w) _
 have hz:w.heap.size<V.heap.size:=by rw[hV];simp
 have c0:V.cell? ⟨w.heap.size,0,none⟩=some (.int .i64 ag):=by rw[hV];go_simp
 have c1:V.cell? ⟨w.heap.size,1,none⟩=some (.int .i64 xf):=by rw[hV];go_simp
 have c2:V.cell? ⟨w.heap.size,2,none⟩=some (.slice A l.length c):=by rw[hV];go_simp
 have HV:=Lib.hid hV
 have HG:=Lib.hid gV
 have HR:=Lib.hid (hr.gr gV)
 clear hV gV hr
 by_cases n1:ag<1
 ·
  have HM:Hid (mayH ag xf l=false):=Lib.hid (mayH_no (.inl n1))
  go_enter Try.func18,Try.ntmps18
  go_upto_region 1 with (fail)
  rw[←HV.out]
  clear HV
  go_wp2
  go_ret
  exact ⟨by rw[HM.out];rfl,HG.out⟩
 by_cases n2:5<ag
 ·
  have HM:Hid (mayH ag xf l=false):=Lib.hid (mayH_no (.inr (.inl n2)))
  go_enter Try.func18,Try.ntmps18
  go_upto_region 1 with (fail)
  rw[←HV.out]
  clear HV
  go_wp2
  go_ret
  exact ⟨by rw[HM.out];rfl,HG.out⟩
 by_cases n3:xf<0
 ·
  have HM:Hid (mayH ag xf l=false):=Lib.hid (mayH_no (.inr (.inr (.inl n3))))
  go_enter Try.func18,Try.ntmps18
  go_upto_region 1 with (fail)
  rw[←HV.out]
  clear HV
  go_wp2
  go_ret
  exact ⟨by rw[HM.out];rfl,HG.out⟩
 by_cases n4:1000000<xf
 ·
  have HM:Hid (mayH ag xf l=false):=Lib.hid (mayH_no (.inr (.inr (.inr n4))))
  go_enter Try.func18,Try.ntmps18
  go_upto_region 1 with (fail)
  rw[←HV.out]
  clear HV
  go_wp2
  go_ret
  exact ⟨by rw[HM.out];rfl,HG.out⟩
 have HY:=Lib.hid (mayH_yes (l:=l) n1 n2 n3 n4)
 rcases Nat.eq_zero_or_pos l.length with h0|h0
 ·
  have hM:mayH ag xf l=false:=HY.out.trans (mayS_len (.inl (by rw[nats_len];exact h0)))
  have HM:=Lib.hid hM
  clear hM
  have h1:(l.length:Int)<1:=by omega
  clear h0
  go_enter Try.func18,Try.ntmps18
  go_upto_region 1 with (fail)
  rw[←HV.out]
  clear HV
  go_wp2
  go_ret
  exact ⟨by rw[HM.out];rfl,HG.out⟩
 rcases Nat.lt_or_ge 8 l.length with h8|h8
 ·
  have hM:mayH ag xf l=false:=HY.out.trans (mayS_len (.inr (by rw[nats_len];exact h8)))
  have HM:=Lib.hid hM
  clear hM
  have h1:¬(l.length:Int)<1:=by omega
  have h2:(8:Int)<(l.length:Int):=by omega
  clear h0 h8
  go_enter Try.func18,Try.ntmps18
  go_upto_region 1 with (fail)
  rw[←HV.out]
  clear HV
  go_wp2
  go_ret
  exact ⟨by rw[HM.out];rfl,HG.out⟩
 have h1:¬(l.length:Int)<1:=by omega
 have h2:¬(8:Int)<(l.length:Int):=by omega
 have H8:=Lib.hid (And.intro h0 h8)
 clear h0 h8
 go_enter Try.func18,Try.ntmps18
 go_upto_region 1 with (fail)
 rw[←HV.out]
 clear HV
 go_upto_region 3 with (fail)
 clear n1 n2 n3 n4
 go_wp2
 go_loopw [4,3] (fun i n wr=>∃k:Nat,k≤l.length∧i= .int .i64 k∧n= .int .i64 (sizeS ((nats l).take k):Nat)∧sizeS ((nats l).take k)≤1048576∧(∀j,j<k→stepOk (nats l) j=true)∧Gr V wr) (fun i _ _=>l.length-(intOf i).toNat)
 case atStart=>exact ⟨0,Nat.zero_le _,rfl,rfl,by rw[List.take_zero];decide,fun j hj=>absurd hj (Nat.not_lt_zero _),Gr.refl _⟩
 case round=>
  obtain ⟨k,hk,rfl,rfl,hsz,hall,hgr⟩:=hrel
  have Hall:=Lib.hid hall
  have Hgr:=Lib.hid hgr
  have hzw:w.heap.size<wr.heap.size:=Nat.lt_of_lt_of_le hz hgr.size
  have c2':=(Below.cell hgr (p:=⟨w.heap.size,2,none⟩) hz).trans c2
  clear hall c2
  have c2:=c2'
  clear c2'
  by_cases hlt:k<l.length
  ·
   have hlt':(k:Int)<(l.length:Int):=by omega
   obtain ⟨ad,rfl,hb,hc⟩:=(HR.out.gr hgr) (by omega)
   have hbn:∀n,(ad.add n).block<wr.heap.size:=fun n=>by rw[adB];exact hb
   have hl8:(l.length:Int)≤8:=by have:=H8.out.2;omega
   obtain ⟨d0,d1⟩:=hc k hlt
   have Hc:=Lib.hid hc
   have hltn:k<(nats l).length:=by rw[nats_len];exact hlt
   have hst:=stepOk_at (l:=nats l) (k:=k) hltn
   have hsT:=sizeS_take (l:=nats l) (k:=k) hltn
   rw[nats_at l k hlt hltn] at hst hsT
   have hgr0:=Hgr
   clear hc hgr
   have hxl:l[k]=(l[k].1,l[k].2):=rfl
   obtain ⟨x1,hx1⟩:∃x,x=l[k].1:=⟨_,rfl⟩
   obtain ⟨x2,hx2⟩:∃x,x=l[k].2:=⟨_,rfl⟩
   rw[←hx1] at d0 hst hsT
   rw[←hx2] at d1 hst hsT
   have Hst:=Lib.hid hst
   have HsT:=Lib.hid hsT
   clear hx1 hx2 hst hxl hsT
   go_upto_region 8 with (fail)
   obtain ⟨wB,hwB⟩:∃wB,wB=wr.alloc (.cells #[.int .i64 x1, .int .i64 x2] 30):=⟨_,rfl⟩
   have gB:Gr wr wB:=by rw[hwB];exact Gr.alloc (Gr.refl wr) _
   have hz4:wr.heap.size<wB.heap.size:=by rw[hwB];simp
   have e0:wB.cell? ⟨wr.heap.size,0,none⟩=some (.int .i64 x1):=by rw[hwB];go_simp
   have e1:wB.cell? ⟨wr.heap.size,1,none⟩=some (.int .i64 x2):=by rw[hwB];go_simp
   rw[←hwB]
   have hbw:∀n,(ad.add n).block<wB.heap.size:=fun n=>Nat.lt_of_lt_of_le (hbn n) gB.size
   have c2':=(Below.cell gB (p:=⟨w.heap.size,2,none⟩) hzw).trans c2
   have hzw':=Nat.lt_of_lt_of_le hzw gB.size
   have Hc':Hid (∀j (h:j<l.length),wB.cell? (ad.add (j*2))=some (.int .i64 l[j].1)∧wB.cell? ⟨(ad.add (j*2)).block,(ad.add (j*2)).off+1,none⟩=some (.int .i64 l[j].2)):=Lib.hid fun j h=>⟨(Below.cell gB (p:=ad.add (j*2)) (hbn _)).trans (Hc.out j h).1,(Below.cell gB (p:=⟨(ad.add (j*2)).block,(ad.add (j*2)).off+1,none⟩) (hbn _)).trans (Hc.out j h).2⟩
   have HgB:=Lib.hid (hgr0.out.trans gB)
   generalize wr.heap.size=B4 at hz4 e0 e1 ⊢
   clear hwB c0 c1 c2 hzw d0 d1 hb hbn Hc gB
   have c2:=c2'
   have hzw:=hzw'
   clear c2' hzw'
   by_cases m1:x1<1
   ·
    have HM:Hid (mayH ag xf l=false):=Lib.hid (HY.out.trans (mayS_step (by rw[nats_len];exact hlt) (by rw[Hst.out,one_no (by omega)];rfl)))
    have t1:x1<1:=by omega
    have t2:decide (x1<1)=true:=decide_eq_true t1
    clear Hst hlt m1
    refine region_R (by kernel_rfl) (by kernel_rfl) ?_
    refine rv ?_;simp only[Pu]
    refine r_val (v:=?qv2) (by kernel_rfl) (fun W hW=>?qh2) ?qr2
    case qh2=>have g:=(Below.cell hW (p:=⟨B4,0,none⟩) hz4).trans e0;go_light;go_simp;rfl
    simp only[Pu]
    iterate 2 (refine rv ?_;simp only[Pu])
    iterate 3 (refine rs ?_;simp only[Pu])
    iterate 2 (refine rv ?_;simp only[Pu])
    iterate 3 (refine rs ?_;simp only[Pu])
    iterate 2 (refine rv ?_;simp only[Pu])
    iterate 3 (refine rs ?_;simp only[Pu])
    iterate 2 (refine rv ?_;simp only[Pu])
    iterate 13 (refine rs ?_;simp only[Pu])
    refine rv ?_;simp only[Pu]
    refine r_nil ?_
    intro w8 hw8
    have HW9:=Lib.hid hw8
    clear hw8
    go_wp2
    go_ret
    exact ⟨by rw[HM.out];rfl,(HG.out.trans HgB.out).trans HW9.out⟩
   by_cases m2:16777216<x1
   ·
    have HM:Hid (mayH ag xf l=false):=Lib.hid (HY.out.trans (mayS_step (by rw[nats_len];exact hlt) (by rw[Hst.out,one_no (by omega)];rfl)))
    have t1:¬x1<1:=by omega
    have t2:(16777216:Int)<x1:=by omega
    have t3:decide (x1<1)=false:=decide_eq_false t1
    have t4:decide ((16777216:Int)<x1)=true:=decide_eq_true t2
    clear Hst hlt m1 m2
    refine region_R (by kernel_rfl) (by kernel_rfl) ?_
    refine rv ?_;simp only[Pu]
    refine r_val (v:=?qv13) (by kernel_rfl) (fun W hW=>?qh13) ?qr13
    case qh13=>have g:=(Below.cell hW (p:=⟨B4,0,none⟩) hz4).trans e0;go_light;go_simp;rfl
    simp only[Pu]
    iterate 3 (refine rv ?_;simp only[Pu])
    refine r_val (v:=?qv17) (by kernel_rfl) (fun W hW=>?qh17) ?qr17
    case qh17=>have g:=(Below.cell hW (p:=⟨B4,0,none⟩) hz4).trans e0;go_light;go_simp;rfl
    simp only[Pu]
    iterate 3 (refine rv ?_;simp only[Pu])
    iterate 3 (refine rs ?_;simp only[Pu])
    iterate 2 (refine rv ?_;simp only[Pu])
    iterate 3 (refine rs ?_;simp only[Pu])
    iterate 2 (refine rv ?_;simp only[Pu])
    iterate 13 (refine rs ?_;simp only[Pu])
    refine rv ?_;simp only[Pu]
    refine r_nil ?_
    intro w8 hw8
    have HW9:=Lib.hid hw8
    clear hw8
    go_wp2
    go_ret
    exact ⟨by rw[HM.out];rfl,(HG.out.trans HgB.out).trans HW9.out⟩
   by_cases m3:x2<1
   ·
    have HM:Hid (mayH ag xf l=false):=Lib.hid (HY.out.trans (mayS_step (by rw[nats_len];exact hlt) (by rw[Hst.out,one_no (by omega)];rfl)))
    have t1:¬x1<1:=by omega
    have t2:¬(16777216:Int)<x1:=by omega
    have t5:x2<1:=by omega
    have t3:decide (x1<1)=false:=decide_eq_false t1
    have t4:decide ((16777216:Int)<x1)=false:=decide_eq_false t2
    have t6:decide (x2<1)=true:=decide_eq_true t5
    clear Hst hlt m1 m2 m3
    refine region_R (by kernel_rfl) (by kernel_rfl) ?_
    refine rv ?_;simp only[Pu]
    refine r_val (v:=?qv27) (by kernel_rfl) (fun W hW=>?qh27) ?qr27
    case qh27=>have g:=(Below.cell hW (p:=⟨B4,0,none⟩) hz4).trans e0;go_light;go_simp;rfl
    simp only[Pu]
    iterate 3 (refine rv ?_;simp only[Pu])
    refine r_val (v:=?qv31) (by kernel_rfl) (fun W hW=>?qh31) ?qr31
    case qh31=>have g:=(Below.cell hW (p:=⟨B4,0,none⟩) hz4).trans e0;go_light;go_simp;rfl
    simp only[Pu]
    iterate 4 (refine rv ?_;simp only[Pu])
    refine r_val (v:=?qv36) (by kernel_rfl) (fun W hW=>?qh36) ?qr36
    case qh36=>have g:=(Below.cell hW (p:=⟨B4,1,none⟩) hz4).trans e1;go_light;go_simp;rfl
    simp only[Pu]
    iterate 3 (refine rv ?_;simp only[Pu])
    iterate 3 (refine rs ?_;simp only[Pu])
    iterate 2 (refine rv ?_;simp only[Pu])
    iterate 13 (refine rs ?_;simp only[Pu])
    refine rv ?_;simp only[Pu]
    refine r_nil ?_
    intro w8 hw8
    have HW9:=Lib.hid hw8
    clear hw8
    go_wp2
    go_ret
    exact ⟨by rw[HM.out];rfl,(HG.out.trans HgB.out).trans HW9.out⟩
   have t1:¬x1<1:=by omega
   have t2:¬(16777216:Int)<x1:=by omega
   have t5:¬x2<1:=by omega
   have t3:decide (x1<1)=false:=decide_eq_false t1
   have t4:decide ((16777216:Int)<x1)=false:=decide_eq_false t2
   have t6:decide (x2<1)=false:=decide_eq_false t5
   by_cases m4:16777216<x2
   ·
    have HM:Hid (mayH ag xf l=false):=Lib.hid (HY.out.trans (mayS_step (by rw[nats_len];exact hlt) (by rw[Hst.out,one_no (by omega)];rfl)))
    have t7:(16777216:Int)<x2:=by omega
    have t8:decide ((16777216:Int)<x2)=true:=decide_eq_true t7
    clear Hst hlt m1 m2 m3 m4
    refine region_R (by kernel_rfl) (by kernel_rfl) ?_
    refine rv ?_;simp only[Pu]
    refine r_val (v:=?qv44) (by kernel_rfl) (fun W hW=>?qh44) ?qr44
    case qh44=>have g:=(Below.cell hW (p:=⟨B4,0,none⟩) hz4).trans e0;go_light;go_simp;rfl
    simp only[Pu]
    iterate 3 (refine rv ?_;simp only[Pu])
    refine r_val (v:=?qv48) (by kernel_rfl) (fun W hW=>?qh48) ?qr48
    case qh48=>have g:=(Below.cell hW (p:=⟨B4,0,none⟩) hz4).trans e0;go_light;go_simp;rfl
    simp only[Pu]
    iterate 4 (refine rv ?_;simp only[Pu])
    refine r_val (v:=?qv53) (by kernel_rfl) (fun W hW=>?qh53) ?qr53
    case qh53=>have g:=(Below.cell hW (p:=⟨B4,1,none⟩) hz4).trans e1;go_light;go_simp;rfl
    simp only[Pu]
    iterate 4 (refine rv ?_;simp only[Pu])
    refine r_val (v:=?qv58) (by kernel_rfl) (fun W hW=>?qh58) ?qr58
    case qh58=>have g:=(Below.cell hW (p:=⟨B4,1,none⟩) hz4).trans e1;go_light;go_simp;rfl
    simp only[Pu]
    iterate 3 (refine rv ?_;simp only[Pu])
    iterate 13 (refine rs ?_;simp only[Pu])
    refine rv ?_;simp only[Pu]
    refine r_nil ?_
    intro w8 hw8
    have HW9:=Lib.hid hw8
    clear hw8
    go_wp2
    go_ret
    exact ⟨by rw[HM.out];rfl,(HG.out.trans HgB.out).trans HW9.out⟩
   have t7:¬(16777216:Int)<x2:=by omega
   have t8:decide ((16777216:Int)<x2)=false:=decide_eq_false t7
   obtain ⟨z1,rfl⟩:∃z:Nat,x1=z:=⟨x1.toNat,by omega⟩
   obtain ⟨z2,rfl⟩:∃z:Nat,x2=z:=⟨x2.toNat,by omega⟩
   have hst0:=Hst.out
   have hsT0:=HsT.out
   simp only[Int.toNat_natCast] at hst0 hsT0
   clear Hst HsT
   have Hst:=Lib.hid hst0
   have HsT:=Lib.hid hsT0
   clear hst0 hsT0
   have hone:oneOk (z1,z2)=true:=oneOk_iff.2 ⟨by simp only;omega,by simp only;omega,by simp only;omega,by simp only;omega⟩
   have Hone:=Lib.hid hone
   rcases k with _|j
   ·
    have HT:Hid (stepOk (nats l) 0=true):=Lib.hid (by rw[Hst.out,hone];rfl)
    clear hone m1 m2 m3 m4
    have zz1:decide ((0:Int)<((0:Nat):Int))=false:=by decide
    refine region_R (by kernel_rfl) (by kernel_rfl) ?_
    refine rv ?_;simp only[Pu]
    refine r_val (v:=?qv97) (by kernel_rfl) (fun W hW=>?qh97) ?qr97
    case qh97=>have g:=(Below.cell hW (p:=⟨B4,0,none⟩) hz4).trans e0;go_light;go_simp;rfl
    simp only[Pu]
    iterate 3 (refine rv ?_;simp only[Pu])
    refine r_val (v:=?qv101) (by kernel_rfl) (fun W hW=>?qh101) ?qr101
    case qh101=>have g:=(Below.cell hW (p:=⟨B4,0,none⟩) hz4).trans e0;go_light;go_simp;rfl
    simp only[Pu]
    iterate 4 (refine rv ?_;simp only[Pu])
    refine r_val (v:=?qv106) (by kernel_rfl) (fun W hW=>?qh106) ?qr106
    case qh106=>have g:=(Below.cell hW (p:=⟨B4,1,none⟩) hz4).trans e1;go_light;go_simp;rfl
    simp only[Pu]
    iterate 4 (refine rv ?_;simp only[Pu])
    refine r_val (v:=?qv111) (by kernel_rfl) (fun W hW=>?qh111) ?qr111
    case qh111=>have g:=(Below.cell hW (p:=⟨B4,1,none⟩) hz4).trans e1;go_light;go_simp;rfl
    simp only[Pu]
    iterate 6 (refine rv ?_;simp only[Pu])
    iterate 9 (refine rs ?_;simp only[Pu])
    iterate 2 (refine rv ?_;simp only[Pu])
    refine r_nil ?_
    intro w8 hw8
    have e1a:=(Below.cell hw8 (p:=⟨B4,1,none⟩) hz4).trans e1
    have hz8:=Nat.lt_of_lt_of_le hz4 hw8.size
    have c2a:=(Below.cell hw8 (p:=⟨w.heap.size,2,none⟩) hzw).trans c2
    have H8w:=Lib.hid (HgB.out.trans hw8)
    clear e0 e1 c2 hz4 hw8
    have hs:=HsT.out
    obtain ⟨N,hN⟩:∃N,N=sizeS ((nats l).take (0)):=⟨_,rfl⟩
    rw[←hN] at hs hsz ⊢
    have HS:=Lib.hid hs
    have hNi:(N:Int)≤1048576:=by omega
    have hx2i:(z2:Int)≤16777216:=by omega
    clear hN hs hsz
    by_cases big:N+(12+12*z2)≤1048576
    ·
     have big1:¬(1048576:Int)<(N:Int)+12+12*(z2:Int):=by omega
     go_wp2
     go_roundw
     case rel=>exact ⟨0+1,by omega,by go_num,by rw[HS.out];go_num,by rw[HS.out];exact big,(fun i hi=>by rcases Nat.lt_succ_iff_lt_or_eq.1 hi with h|h;exact Hall.out i h;rw[h];exact HT.out),H8w.out⟩
     case measure=>simp[intOf];omega
    ·
     have big1:(1048576:Int)<(N:Int)+12+12*(z2:Int):=by omega
     have HM:Hid (mayH ag xf l=false):=Lib.hid (HY.out.trans (mayS_size (Nat.lt_of_lt_of_le (by rw[HS.out];omega) (sizeS_mono (nats l) (0+1)))))
     clear big
     go_wp2
     go_ret
     exact ⟨by rw[HM.out];rfl,HG.out.trans H8w.out⟩
   ·
    have hj:j<l.length:=by omega
    obtain ⟨p0,p1⟩:=Hc'.out j hj
    have hjn:j<(nats l).length:=by rw[nats_len];exact hj
    have hone1:oneOk (nats l)[j]=true:=by
     have:=Hall.out j (Nat.lt_succ_self _)
     rw[stepOk_at hjn,Bool.and_eq_true] at this
     exact this.1
    rw[nats_one hj hjn hone1] at p0 p1
    obtain ⟨y,hy⟩:∃y,y=(nats l)[j]:=⟨_,rfl⟩
    have hst:=Hst.out
    simp only[Nat.add_sub_cancel] at hst
    rw[←hy] at hone1 p0 p1 hst
    obtain ⟨F,hF⟩:∃F,F=fitsS y (z1,z2):=⟨_,rfl⟩
    have hst2:stepOk (nats l) (j+1)=F:=by rw[hst,hone,hF];simp
    have hcall:=fun W=>rside_any y (z1,z2) hone1 hone W
    rw[←hF] at hcall
    obtain ⟨y1,y2⟩:=y
    simp only at p0 p1 hcall
    have HCALL:=Lib.hid hcall
    have HST:=Lib.hid hst2
    have zz1:decide ((0:Int)<(j:Int)+1)=true:=by rw[decide_eq_true_eq];omega
    have zz2:(0:Int)<(j:Int)+1:=by omega
    have hji:(j:Int)≤400:=by omega
    have zw:IntKind.i64.wrap (j:Int)=(j:Int):=IntWalk.i64_in (j:Int) (by omega)
    have hjl:(j:Int)<(l.length:Int):=by omega
    clear hone hone1 hF hst hst2 hcall hy hj hjn m1 m2 m3 m4
    cases F with
    | false=>
     have HM:Hid (mayH ag xf l=false):=Lib.hid (HY.out.trans (mayS_step (by rw[nats_len];exact hlt) HST.out))
     clear Hst hlt
     refine region_R (by kernel_rfl) (by kernel_rfl) ?_
     refine rv ?_;simp only[Pu]
     refine r_val (v:=?qv64) (by kernel_rfl) (fun W hW=>?qh64) ?qr64
     case qh64=>have g:=(Below.cell hW (p:=⟨B4,0,none⟩) hz4).trans e0;go_light;go_simp;rfl
     simp only[Pu]
     iterate 3 (refine rv ?_;simp only[Pu])
     refine r_val (v:=?qv68) (by kernel_rfl) (fun W hW=>?qh68) ?qr68
     case qh68=>have g:=(Below.cell hW (p:=⟨B4,0,none⟩) hz4).trans e0;go_light;go_simp;rfl
     simp only[Pu]
     iterate 4 (refine rv ?_;simp only[Pu])
     refine r_val (v:=?qv73) (by kernel_rfl) (fun W hW=>?qh73) ?qr73
     case qh73=>have g:=(Below.cell hW (p:=⟨B4,1,none⟩) hz4).trans e1;go_light;go_simp;rfl
     simp only[Pu]
     iterate 4 (refine rv ?_;simp only[Pu])
     refine r_val (v:=?qv78) (by kernel_rfl) (fun W hW=>?qh78) ?qr78
     case qh78=>have g:=(Below.cell hW (p:=⟨B4,1,none⟩) hz4).trans e1;go_light;go_simp;rfl
     simp only[Pu]
     iterate 7 (refine rv ?_;simp only[Pu])
     refine r_val (v:=?qv86) (by kernel_rfl) (fun W hW=>?qh86) ?qr86
     case qh86=>have g:=(Below.cell hW (p:=⟨w.heap.size,2,none⟩) hzw).trans c2;go_light;go_simp;rfl
     simp only[Pu]
     iterate 3 (refine rv ?_;simp only[Pu])
     refine r_val (v:=?qv90) (by kernel_rfl) (fun W hW=>?qh90) ?qr90
     case qh90=>have g:=(Below.cell hW (p:=ad.add (j*2)) (hbw _)).trans p0;have g2:=(Below.cell hW (p:=⟨(ad.add (j*2)).block,(ad.add (j*2)).off+1,none⟩) (hbw _)).trans p1;go_light;go_simp;rfl
     simp only[Pu]
     refine r_val (v:=?qv91) (by kernel_rfl) (fun W hW=>?qh91) ?qr91
     case qh91=>have g:=(Below.cell hW (p:=⟨B4,0,none⟩) hz4).trans e0;have g2:=(Below.cell hW (p:=⟨B4,1,none⟩) hz4).trans e1;go_light;go_simp;rfl
     simp only[Pu]
     refine r_call (v:= .bool false) (f:=?qf92) (args:=?qa92) (by kernel_rfl) (fun W hW=>?qh92) (fun W hW=>?qc92) ?qr92
     case qh92=>go_light;go_simp;constructor<;>rfl
     case qc92=>exact (HCALL.out _).mono (fun e w' h=>⟨h.1,Gr.trans hW h.2⟩)
     simp only[Pu]
     iterate 3 (refine rv ?_;simp only[Pu])
     refine r_nil ?_
     intro w8 hw8
     have HW9:=Lib.hid hw8
     clear hw8
     go_wp2
     go_ret
     exact ⟨by rw[HM.out];rfl,(HG.out.trans HgB.out).trans HW9.out⟩
    | true=>
     refine region_R (by kernel_rfl) (by kernel_rfl) ?_
     refine rv ?_;simp only[Pu]
     refine r_val (v:=?qv121) (by kernel_rfl) (fun W hW=>?qh121) ?qr121
     case qh121=>have g:=(Below.cell hW (p:=⟨B4,0,none⟩) hz4).trans e0;go_light;go_simp;rfl
     simp only[Pu]
     iterate 3 (refine rv ?_;simp only[Pu])
     refine r_val (v:=?qv125) (by kernel_rfl) (fun W hW=>?qh125) ?qr125
     case qh125=>have g:=(Below.cell hW (p:=⟨B4,0,none⟩) hz4).trans e0;go_light;go_simp;rfl
     simp only[Pu]
     iterate 4 (refine rv ?_;simp only[Pu])
     refine r_val (v:=?qv130) (by kernel_rfl) (fun W hW=>?qh130) ?qr130
     case qh130=>have g:=(Below.cell hW (p:=⟨B4,1,none⟩) hz4).trans e1;go_light;go_simp;rfl
     simp only[Pu]
     iterate 4 (refine rv ?_;simp only[Pu])
     refine r_val (v:=?qv135) (by kernel_rfl) (fun W hW=>?qh135) ?qr135
     case qh135=>have g:=(Below.cell hW (p:=⟨B4,1,none⟩) hz4).trans e1;go_light;go_simp;rfl
     simp only[Pu]
     iterate 7 (refine rv ?_;simp only[Pu])
     refine r_val (v:=?qv143) (by kernel_rfl) (fun W hW=>?qh143) ?qr143
     case qh143=>have g:=(Below.cell hW (p:=⟨w.heap.size,2,none⟩) hzw).trans c2;go_light;go_simp;rfl
     simp only[Pu]
     iterate 3 (refine rv ?_;simp only[Pu])
     refine r_val (v:=?qv147) (by kernel_rfl) (fun W hW=>?qh147) ?qr147
     case qh147=>have g:=(Below.cell hW (p:=ad.add (j*2)) (hbw _)).trans p0;have g2:=(Below.cell hW (p:=⟨(ad.add (j*2)).block,(ad.add (j*2)).off+1,none⟩) (hbw _)).trans p1;go_light;go_simp;rfl
     simp only[Pu]
     refine r_val (v:=?qv148) (by kernel_rfl) (fun W hW=>?qh148) ?qr148
     case qh148=>have g:=(Below.cell hW (p:=⟨B4,0,none⟩) hz4).trans e0;have g2:=(Below.cell hW (p:=⟨B4,1,none⟩) hz4).trans e1;go_light;go_simp;rfl
     simp only[Pu]
     refine r_call (v:= .bool true) (f:=?qf149) (args:=?qa149) (by kernel_rfl) (fun W hW=>?qh149) (fun W hW=>?qc149) ?qr149
     case qh149=>go_light;go_simp;constructor<;>rfl
     case qc149=>exact (HCALL.out _).mono (fun e w' h=>⟨h.1,Gr.trans hW h.2⟩)
     simp only[Pu]
     iterate 3 (refine rv ?_;simp only[Pu])
     refine r_nil ?_
     intro w8 hw8
     have e1a:=(Below.cell hw8 (p:=⟨B4,1,none⟩) hz4).trans e1
     have hz8:=Nat.lt_of_lt_of_le hz4 hw8.size
     have c2a:=(Below.cell hw8 (p:=⟨w.heap.size,2,none⟩) hzw).trans c2
     have H8w:=Lib.hid (HgB.out.trans hw8)
     clear e0 e1 c2 hz4 hw8
     have hs:=HsT.out
     obtain ⟨N,hN⟩:∃N,N=sizeS ((nats l).take (j+1)):=⟨_,rfl⟩
     rw[←hN] at hs hsz ⊢
     have HS:=Lib.hid hs
     have hNi:(N:Int)≤1048576:=by omega
     have hx2i:(z2:Int)≤16777216:=by omega
     clear hN hs hsz
     by_cases big:N+(12+12*z2)≤1048576
     ·
      have big1:¬(1048576:Int)<(N:Int)+12+12*(z2:Int):=by omega
      go_wp2
      go_roundw
      case rel=>exact ⟨j+1+1,by omega,by go_num,by rw[HS.out];go_num,by rw[HS.out];exact big,(fun i hi=>by rcases Nat.lt_succ_iff_lt_or_eq.1 hi with h|h;exact Hall.out i h;rw[h];exact HST.out),H8w.out⟩
      case measure=>simp[intOf];omega
     ·
      have big1:(1048576:Int)<(N:Int)+12+12*(z2:Int):=by omega
      have HM:Hid (mayH ag xf l=false):=Lib.hid (HY.out.trans (mayS_size (Nat.lt_of_lt_of_le (by rw[HS.out];omega) (sizeS_mono (nats l) (j+1+1)))))
      clear big
      go_wp2
      go_ret
      exact ⟨by rw[HM.out];rfl,HG.out.trans H8w.out⟩
  ·
   have hkk:k=l.length:=by omega
   subst hkk
   have hx:=H8.out.1
   obtain ⟨m,hm⟩:∃m,l.length=m+1:=⟨l.length-1,by omega⟩
   have hml:m<l.length:=by omega
   obtain ⟨ad,rfl,hb,hc⟩:=(HR.out.gr hgr) hx
   obtain ⟨d0,d1⟩:=hc m hml
   have hmn:m<(nats l).length:=by rw[nats_len];exact hml
   have hone:∀j (h:j<(nats l).length),oneOk (nats l)[j]=true:=fun j h=>by
    have:=Hall.out j (by rw[nats_len] at h;exact h)
    rw[stepOk_at h,Bool.and_eq_true] at this
    exact this.1
   have hszn:sizeS (nats l)≤1048576:=by
    rw[List.take_of_length_le (by rw[nats_len];exact Nat.le_refl _)] at hsz
    exact hsz
   obtain ⟨L,hL⟩:∃L,L=nats l:=⟨_,rfl⟩
   have hlast:lastS L=L[m]'(by rw[hL];exact hmn):=by rw[lastS_at (by rw[hL,nats_len];exact hx)];congr 1;rw[hL,nats_len];omega
   have hol:=oneOk_iff.1 (hone m hmn)
   have hrest:=mayS_rest (l:=nats l) (by rw[nats_len];exact hx) (by rw[nats_len];exact H8.out.2) (fun k hk=>Hall.out k (by rw[nats_len] at hk;exact hk)) hszn
   rw[nats_one hml hmn (hone m hmn)] at d0 d1
   simp only[←hL] at hol hrest d0 d1
   rw[hlast] at hrest
   obtain ⟨x1,hx1⟩:∃x,x=(L[m]'(by rw[hL];exact hmn)).1:=⟨_,rfl⟩
   obtain ⟨x2,hx2⟩:∃x,x=(L[m]'(by rw[hL];exact hmn)).2:=⟨_,rfl⟩
   rw[←hx1] at d0 hol hrest
   rw[←hx2] at d1 hol hrest
   have hw:=prod_small (x1:Int) x2 (by omega) (by omega) (by omega) (by omega)
   have HYL:Hid (mayH ag xf l=mayS L):=Lib.hid (by rw[hL];exact HY.out)
   have Hrest:=Lib.hid hrest
   clear hx1 hx2 hlast hone hol hrest hc hx hL hmn hszn
   rw[hm] at c2 ⊢
   have hmi:(m:Int)≤400:=by omega
   have zm:IntKind.i64.wrap (m:Int)=(m:Int):=IntWalk.i64_in (m:Int) (by omega)
   clear hlt h1 h2 hml
   go_upto_region 14 with (fail)
   obtain ⟨wC,hwC⟩:∃wC,wC=wr.alloc (.cells #[.int .i64 x1, .int .i64 x2] 30):=⟨_,rfl⟩
   have gC:Gr wr wC:=by rw[hwC];exact Gr.alloc (Gr.refl wr) _
   have hz5:wr.heap.size<wC.heap.size:=by rw[hwC];simp
   have e0:wC.cell? ⟨wr.heap.size,0,none⟩=some (.int .i64 x1):=by rw[hwC];go_simp
   have e1:wC.cell? ⟨wr.heap.size,1,none⟩=some (.int .i64 x2):=by rw[hwC];go_simp
   rw[←hwC]
   have c0':=(Below.cell (hgr.trans gC) (p:=⟨w.heap.size,0,none⟩) hz).trans c0
   have c1':=(Below.cell (hgr.trans gC) (p:=⟨w.heap.size,1,none⟩) hz).trans c1
   have c2':=(Below.cell gC (p:=⟨w.heap.size,2,none⟩) hzw).trans c2
   have HGC:=Lib.hid (hgr.trans gC)
   generalize wr.heap.size=B5 at hz5 e0 e1 ⊢
   clear hwC gC c0 c1 c2 d0 d1 hb
   have hM:=Hrest.out
   clear hm hgr hsz
   by_cases u1:x1*x2≤maxTime
   ·
    have u2:(x1:Int)*(x2:Int)≤4294967295:=by rw[←Int.natCast_mul];unfold maxTime at u1;omega
    have u3:decide ((x1:Int)*(x2:Int)≤4294967295)=true:=decide_eq_true u2
    have HM:Hid (mayH ag xf l=true):=Lib.hid (by rw[HYL.out,hM,Nat.ble_eq];exact u1)
    clear u1 hM
    go_wp2
    go_ret
    exact ⟨ret_b (by rw[HM.out]),HG.out.trans HGC.out⟩
   ·
    have u2:¬(x1:Int)*(x2:Int)≤4294967295:=by rw[←Int.natCast_mul];unfold maxTime at u1;omega
    have u3:decide ((x1:Int)*(x2:Int)≤4294967295)=false:=decide_eq_false u2
    have HM:Hid (mayH ag xf l=false):=Lib.hid (by rw[HYL.out,hM,Bool.eq_false_iff,ne_eq,Nat.ble_eq];exact u1)
    clear u1 hM
    go_wp2
    go_ret
    exact ⟨ret_b (by rw[HM.out]),HG.out.trans HGC.out⟩
theorem rhsize_any (ag xf:Int) (A:Option Addr) (c:Nat) (l:List (Int×Int)) (w:World) (hr:Ri w A l):Calls Try.prog 19 #[.agg #[.int .i64 ag, .int .i64 xf, .slice A l.length c]] w fun e w'=>e= .returned (.int .i64 (bif mayH ag xf l then (sizeS (nats l):Nat) else 0))∧Gr w w':=by
 obtain ⟨V,hV⟩:∃V,V=w.alloc (.cells #[.int .i64 ag, .int .i64 xf, .slice A l.length c] 24):=⟨_,rfl⟩
 have gV:Gr w V:=by rw[hV];exact Gr.alloc (Gr.refl w) _
 have hz:w.heap.size<V.heap.size:=by rw[hV];simp
 have c0:V.cell? ⟨w.heap.size,0,none⟩=some (.int .i64 ag):=by rw[hV];go_simp
 have c1:V.cell? ⟨w.heap.size,1,none⟩=some (.int .i64 xf):=by rw[hV];go_simp
 have c2:V.cell? ⟨w.heap.size,2,none⟩=some (.slice A l.length c):=by rw[hV];go_simp
 have HV:=Lib.hid hV
 have HG:=Lib.hid gV
 have HR:=Lib.hid (hr.gr gV)
 have hck:=fun W (hW:Ri W A l)=>rmay_any ag xf A c l W hW
 clear hV gV hr
 cases hM:mayH ag xf l
 ·
  rw[hM] at hck
  have HCK:=Lib.hid hck
  clear hck hM
  go_enter Try.func19,Try.ntmps19
  go_upto_region 1 with (fail)
  rw[←HV.out]
  clear HV
  go_wp2_with (go_at_call 18;refine (HCK.out _ HR.out).mono ?_;rintro e w1 ⟨rfl,g1⟩;have d0:=(Below.cell g1 (p:=⟨w.heap.size,0,none⟩) hz).trans c0;have d1:=(Below.cell g1 (p:=⟨w.heap.size,1,none⟩) hz).trans c1;have d2:=(Below.cell g1 (p:=⟨w.heap.size,2,none⟩) hz).trans c2;have hz1:=Nat.lt_of_lt_of_le hz g1.size;have HG1:=Lib.hid (HG.out.trans g1);have HR1:=Lib.hid (HR.out.gr g1);clear c0 c1 c2 hz g1 HG HR)
  go_ret
  exact ⟨rfl,HG1.out⟩
 ·
  rw[hM] at hck
  obtain ⟨m,rfl,hm, -⟩:=mayH_nat hM
  have hml:=ints_len m
  rw[hml] at c2 HV hck ⊢
  have HCK:=Lib.hid hck
  rw[nats_ints]
  have hf:=mayS_facts hm
  have HB:=Lib.hid (And.intro hf.2.1 (fun (a:Nat×Nat) (ha:a∈m)=>(by obtain ⟨k,h,rfl⟩:=List.mem_iff_getElem.1 ha;exact (hf.2.2.2.2 k h).2.2.2:a.2≤16777216)))
  clear hck hM hf hm hml
  go_enter Try.func19,Try.ntmps19
  go_upto_region 1 with (fail)
  rw[←HV.out]
  clear HV
  go_wp2_with (go_at_call 18;refine (HCK.out _ HR.out).mono ?_;rintro e w1 ⟨rfl,g1⟩;have d0:=(Below.cell g1 (p:=⟨w.heap.size,0,none⟩) hz).trans c0;have d1:=(Below.cell g1 (p:=⟨w.heap.size,1,none⟩) hz).trans c1;have d2:=(Below.cell g1 (p:=⟨w.heap.size,2,none⟩) hz).trans c2;have hz1:=Nat.lt_of_lt_of_le hz g1.size;have HG1:=Lib.hid (HG.out.trans g1);have HR1:=Lib.hid (HR.out.gr g1);clear c0 c1 c2 hz g1 HG HR)
  go_loopw [4,3] (fun i n wr=>∃k:Nat,k≤m.length∧i= .int .i64 k∧n= .int .i64 (sizeS (m.take k):Nat)∧Gr w1 wr) (fun i _ _=>m.length-(intOf i).toNat)
  case atStart=>exact ⟨0,Nat.zero_le _,rfl,rfl,Gr.refl _⟩
  case round=>
   obtain ⟨k,hk,rfl,rfl,hgr⟩:=hrel
   have e2:=(Below.cell hgr (p:=⟨w.heap.size,2,none⟩) hz1).trans d2
   by_cases hlt:k<m.length
   ·
    have hlt':(k:Int)<(m.length:Int):=by omega
    obtain ⟨ad,rfl,hb,hc⟩:=(HR1.out.gr hgr) (by rw[ints_len];omega)
    obtain ⟨p0,p1⟩:=hc k (by rw[ints_len];omega)
    rw[ints_at m k hlt] at p0 p1
    simp only at p0 p1
    have hs:=sizeS_take hlt
    have hb1:=HB.out.2 m[k] (List.getElem_mem hlt)
    have hb2:=sizeS_bound (m.take (k+1)) (fun a ha=>HB.out.2 a (List.mem_of_mem_take ha))
    have h8:=HB.out.1
    rw[List.length_take,Nat.min_eq_left (by omega)] at hb2
    have HS:=Lib.hid hs
    have Hgr:=Lib.hid hgr
    generalize m[k].1=x1 at *
    generalize m[k].2=x2 at *
    obtain ⟨N,hN⟩:∃N,N=sizeS (m.take k):=⟨_,rfl⟩
    rw[←hN] at HS ⊢
    have hNi:(N:Int)+(12+12*(x2:Int))≤2000000000:=by have:=HS.out;omega
    have hx2:(x2:Int)≤16777216:=by omega
    have h8i:(m.length:Int)≤8:=by omega
    clear hc hs hb1 hb2 hgr hN h8 d0 d1 d2
    go_wp2
    go_roundw
    case rel=>exact ⟨k+1,by omega,by go_num,by rw[HS.out];go_num,gq⟩
    case measure=>simp[intOf];omega
   ·
    have hkk:k=m.length:=by omega
    subst hkk
    have HK:=Lib.hid hgr
    clear hgr d0 d1 d2
    go_wp2
    go_ret
    exact ⟨ret_i (by rw[List.take_length];rfl),HG1.out.trans HK.out⟩
def smallB (ag xf:Int) (l:List (Int×Int)):Bool:=mayH ag xf l&&Nat.ble (sizeS (nats l)) 3000
theorem small_any (ag xf:Int) (A:Option Addr) (c:Nat) (l:List (Int×Int)) (w:World) (hr:Ri w A l):Calls Try.prog 6 #[.agg #[.int .i64 ag, .int .i64 xf, .slice A l.length c]] w fun e w'=>e= .returned (.bool (smallB ag xf l))∧Gr w w':=by
 obtain ⟨V,hV⟩:∃V,V=w.alloc (.cells #[.int .i64 ag, .int .i64 xf, .slice A l.length c] 24):=⟨_,rfl⟩
 have gV:Gr w V:=by rw[hV];exact Gr.alloc (Gr.refl w) _
 have hz:w.heap.size<V.heap.size:=by rw[hV];simp
 have c0:V.cell? ⟨w.heap.size,0,none⟩=some (.int .i64 ag):=by rw[hV];go_simp
 have c1:V.cell? ⟨w.heap.size,1,none⟩=some (.int .i64 xf):=by rw[hV];go_simp
 have c2:V.cell? ⟨w.heap.size,2,none⟩=some (.slice A l.length c):=by rw[hV];go_simp
 have HV:=Lib.hid hV
 have HG:=Lib.hid gV
 have HR:=Lib.hid (hr.gr gV)
 have hck:=fun W (hW:Ri W A l)=>rmay_any ag xf A c l W hW
 have hsz:=fun W (hW:Ri W A l)=>rhsize_any ag xf A c l W hW
 unfold smallB
 clear hV gV hr
 cases hM:mayH ag xf l
 ·
  rw[hM] at hck
  have HCK:=Lib.hid hck
  clear hck hM hsz
  go_enter Try.func6,Try.ntmps6
  go_upto_region 1 with (fail)
  rw[←HV.out]
  clear HV
  go_wp2_with (go_at_call 18;refine (HCK.out _ HR.out).mono ?_;rintro e w1 ⟨rfl,g1⟩;have d0:=(Below.cell g1 (p:=⟨w.heap.size,0,none⟩) hz).trans c0;have d1:=(Below.cell g1 (p:=⟨w.heap.size,1,none⟩) hz).trans c1;have d2:=(Below.cell g1 (p:=⟨w.heap.size,2,none⟩) hz).trans c2;have hz1:=Nat.lt_of_lt_of_le hz g1.size;have HG1:=Lib.hid (HG.out.trans g1);have HR1:=Lib.hid (HR.out.gr g1);clear c0 c1 c2 hz g1 HG HR)
  go_ret
  exact ⟨rfl,HG1.out⟩
 ·
  rw[hM] at hck hsz
  have HCK:=Lib.hid hck
  obtain ⟨S,hS⟩:∃S,S=sizeS (nats l):=⟨_,rfl⟩
  simp only[cond_true] at hsz
  rw[←hS] at hsz ⊢
  have HSZ:=Lib.hid hsz
  clear hck hM hsz hS
  by_cases hb:S≤3000
  ·
   have hbi:(S:Int)≤3000:=by omega
   have HB:Hid ((true&&Nat.ble S 3000)=true):=Lib.hid (by rw[Bool.true_and,Nat.ble_eq];exact hb)
   clear hb
   go_enter Try.func6,Try.ntmps6
   go_upto_region 1 with (fail)
   rw[←HV.out]
   clear HV
   go_wp2_with (first|(go_at_call 18;refine (HCK.out _ HR.out).mono ?_;rintro e w1 ⟨rfl,g1⟩;have d0:=(Below.cell g1 (p:=⟨w.heap.size,0,none⟩) hz).trans c0;have d1:=(Below.cell g1 (p:=⟨w.heap.size,1,none⟩) hz).trans c1;have d2:=(Below.cell g1 (p:=⟨w.heap.size,2,none⟩) hz).trans c2;have hz1:=Nat.lt_of_lt_of_le hz g1.size;have HG1:=Lib.hid (HG.out.trans g1);have HR1:=Lib.hid (HR.out.gr g1);clear c0 c1 c2 hz g1 HG HR)|(go_at_call 19;refine (HSZ.out _ HR1.out).mono ?_;rintro e w2 ⟨rfl,g2⟩;have HG2:=Lib.hid (HG1.out.trans g2);clear g2))
   go_ret
   exact ⟨ret_b (Eq.trans (by first|exact decide_eq_false (by omega)|exact decide_eq_true (by omega)|rfl) HB.out.symm),HG2.out⟩
  ·
   have hbi:¬(S:Int)≤3000:=by omega
   have HB:Hid ((true&&Nat.ble S 3000)=false):=Lib.hid (by rw[Bool.true_and,Bool.eq_false_iff,ne_eq,Nat.ble_eq];exact hb)
   clear hb
   go_enter Try.func6,Try.ntmps6
   go_upto_region 1 with (fail)
   rw[←HV.out]
   clear HV
   go_wp2_with (first|(go_at_call 18;refine (HCK.out _ HR.out).mono ?_;rintro e w1 ⟨rfl,g1⟩;have d0:=(Below.cell g1 (p:=⟨w.heap.size,0,none⟩) hz).trans c0;have d1:=(Below.cell g1 (p:=⟨w.heap.size,1,none⟩) hz).trans c1;have d2:=(Below.cell g1 (p:=⟨w.heap.size,2,none⟩) hz).trans c2;have hz1:=Nat.lt_of_lt_of_le hz g1.size;have HG1:=Lib.hid (HG.out.trans g1);have HR1:=Lib.hid (HR.out.gr g1);clear c0 c1 c2 hz g1 HG HR)|(go_at_call 19;refine (HSZ.out _ HR1.out).mono ?_;rintro e w2 ⟨rfl,g2⟩;have HG2:=Lib.hid (HG1.out.trans g2);clear g2))
   go_ret
   exact ⟨ret_b (Eq.trans (by first|exact decide_eq_false (by omega)|exact decide_eq_true (by omega)|rfl) HB.out.symm),HG2.out⟩
theorem ralign_any (t step:Int) (ht:t≤9223372036854775807) (w:World):Calls Try.prog 7 #[.int .i64 t, .int .i64 step] w fun e w'=>e= .returned (.int .i64 (alignS t step))∧w=w':=by
 by_cases h1:step<1
 ·
  have e:alignS t step=t:=by unfold alignS;rw[if_pos (.inl h1)]
  rw[e]
  go_enter Try.func7,Try.ntmps7
  go_wp2
  go_ret
  exact ⟨rfl,rfl⟩
 ·
  by_cases h2:t<0
  ·
   have e:alignS t step=t:=by unfold alignS;rw[if_pos (.inr h2)]
   rw[e]
   go_enter Try.func7,Try.ntmps7
   go_wp2
   go_ret
   exact ⟨rfl,rfl⟩
  ·
   have e:alignS t step=t-t%step:=alignS_of (by omega) (by omega)
   have hm:t.tmod step=t%step:=Int.tmod_eq_emod_of_nonneg (by omega)
   have h3:0≤t%step:=Int.emod_nonneg _ (by omega)
   have h4:t%step≤t:=emod_le' (by omega) (by omega)
   have hz:¬step=0:=by omega
   have hw:wrap64 (t-t%step)=t-t%step:=IntWalk.wrap64_in _ (by omega)
   rw[e]
   go_enter Try.func7,Try.ntmps7
   go_wp2
   go_ret
   exact ⟨rfl,rfl⟩
theorem rplace_any (step count t:Int) (ht:t≤9223372036854775807) (hs:step≤9223372036854775807) (hc:count≤9223372036854775807) (w:World):Calls Try.prog 11 #[.agg #[.int .i64 step, .int .i64 count], .int .i64 t] w fun e w'=>e= .returned (.int .i64 (placeS step count t))∧Gr w w':=by
 by_cases h1:step<1
 ·
  have e:placeS step count t=0:=by unfold placeS;rw[if_pos (.inl h1)]
  rw[e]
  go_enter Try.func11,Try.ntmps11
  go_wp2
  go_ret
  exact ⟨rfl,Gr.alloc (Gr.refl w) _⟩
 ·
  by_cases h2:count<1
  ·
   have e:placeS step count t=0:=by unfold placeS;rw[if_pos (.inr (.inl h2))]
   rw[e]
   go_enter Try.func11,Try.ntmps11
   go_wp2
   go_ret
   exact ⟨rfl,Gr.alloc (Gr.refl w) _⟩
  ·
   by_cases h3:t<0
   ·
    have e:placeS step count t=0:=by unfold placeS;rw[if_pos (.inr (.inr h3))]
    rw[e]
    go_enter Try.func11,Try.ntmps11
    go_wp2
    go_ret
    exact ⟨rfl,Gr.alloc (Gr.refl w) _⟩
   ·
    have e:placeS step count t=t/step%count:=placeS_of (by omega) (by omega) (by omega)
    have hd:t.tdiv step=t/step:=Int.tdiv_eq_ediv_of_nonneg (by omega)
    have hq:0≤t/step:=Int.ediv_nonneg (by omega) (by omega)
    have hm:(t/step).tmod count=t/step%count:=Int.tmod_eq_emod_of_nonneg hq
    have hz:¬step=0:=by omega
    have hzc:¬count=0:=by omega
    have hle:t/step≤t:=Int.ediv_le_self _ (by omega)
    have hw1:IntKind.i64.wrap (t/step)=t/step:=IntWalk.i64_in _ (by omega)
    have hr0:0≤t/step%count:=Int.emod_nonneg _ (by omega)
    have hr1:t/step%count<count:=Int.emod_lt_of_pos _ (by omega)
    have hw2:IntKind.i64.wrap (t/step%count)=t/step%count:=IntWalk.i64_in _ (by omega)
    rw[e]
    go_enter Try.func11,Try.ntmps11
    go_upto_region 3 with (fail)
    have b0:(w.alloc (.cells #[.int .i64 step, .int .i64 count] 30)).cell? ⟨w.heap.size,0,none⟩=some (.int .i64 step):=by go_simp
    have b1:(w.alloc (.cells #[.int .i64 step, .int .i64 count] 30)).cell? ⟨w.heap.size,1,none⟩=some (.int .i64 count):=by go_simp
    refine region_Q (by kernel_rfl) (by kernel_rfl) ?_
    iterate 2 (refine qv ?_;simp only[Pu])
    refine q_val (v:=?qv3) (by rfl) (fun W hW=>?qh3) ?qr3
    case qh3=>have g:=(Below.cell hW (p:=⟨w.heap.size,0,none⟩) (by show w.heap.size<_;simp)).trans b0;go_simp;rfl
    simp only[Pu]
    iterate 2 (refine qv ?_;simp only[Pu])
    refine q_val (v:=?qv6) (by rfl) (fun W hW=>?qh6) ?qr6
    case qh6=>have g:=(Below.cell hW (p:=⟨w.heap.size,1,none⟩) (by show w.heap.size<_;simp)).trans b1;go_simp;rfl
    simp only[Pu]
    iterate 2 (refine qv ?_;simp only[Pu])
    refine wpQuiet_nil ?_
    intro w8 hw8
    have g8:Gr w w8:=(Gr.alloc (Gr.refl w) _).trans hw8
    clear hw8 b0 b1
    go_wp2
    go_ret
    exact ⟨rfl,g8⟩
def kM:Arcs:=[(1,60),(60,5)]
theorem kM_may:mayH 2 0 (ints kM)=true:=by kernel_rfl
theorem kM_size:sizeS kM=820:=by kernel_rfl
theorem known_n:(updS 2 0 kM 100 [(99,5)] (0,newS 2 0 kM)).1=1:=by kernel_rfl
theorem known_v:fetV kM (updS 2 0 kM 100 [(99,5)] (0,newS 2 0 kM)).2 100 98 99=[⟨true,5⟩]:=by kernel_rfl
theorem known_s:startS kM (whichS kM (100-frS kM 100 98)) (frS kM 100 98)=99:=by kernel_rfl
section
open Go.RowKit Go.ChangeMaps Go.Maps
theorem used_none {Y:Nat→Prop} {F P M:Nat} {R:Option Nat} {room:Int} {n:Nat} (w:World) (h:FsM Y w F P M R room n none):Calls Try.prog 37 #[.pointer (some ⟨F,0,none⟩)] w fun e w'=>e= .returned (.int .i64 0)∧Gr w w':=by
 have f2:=h.f2
 obtain ⟨clk,hb⟩:=h.mp
 have hr:=run_range_map (P:=Try.prog) w 60 _ _ M #[] clk Try.underlying60 hb
 have hlm:=h.lm
 clear h
 have HB:=Lib.hid hb
 go_enter Try.func37,Try.ntmps37
 go_wp2
 obtain ⟨W1,hW1⟩:∃W1,W1=w.alloc (.mapIter (some M) clk #[] clk):=⟨_,rfl⟩
 have g1:Gr w W1:=by rw[hW1];exact Gr.alloc (Gr.refl _) _
 have hi:W1.heap[w.heap.size]?=some (.mapIter (some M) clk #[] clk):=by rw[hW1];exact heap_alloc_new _ _
 have hb1:W1.heap[M]?=some (.map #[] clk):=(Below.block g1 M hlm).trans HB.out
 have hn:=fun ty=>next_none (P:=Try.prog) ty hi hb1
 try rw[←hW1]
 clear hW1 hr hi hb1 hb
 go_loopw [3] (fun v wr=>v= .int .i64 0∧wr=W1) (fun _ _=>0)
 case atStart=>exact ⟨rfl,by first|trivial|rfl⟩
 case round=>
  obtain ⟨rfl,hww⟩:=hrel
  subst hww
  go_wp2
  go_ret
  exact ⟨rfl,g1⟩
end
section
open Go.RowKit Go.ChangeMaps Go.Maps
theorem fcreate_new {Y:Nat→Prop} {F P M:Nat} {R:Option Nat} {room:Int} {n:Nat} (pb k c:Nat) (L:List UInt8) (hL:(L.length:Int)≤room) (hroom:room≤1073741824) (hn:n≤1000000) (w:World) (h:FsM Y w F P M R room n none)
  (htot:∀W,Gr w W→Calls Try.prog 36 #[.int .i64 1073741824, .slice (some ⟨pb,0,none⟩) k c] W fun e w'=>e= .returned (.int .i64 (L.length:Nat))∧Gr W w')
  (hjoin:∀W,Gr w W→Calls Try.prog 39 #[.slice (some ⟨pb,0,none⟩) k c, .slice none 0 0] W fun e w'=>∃g d,e= .returned (.slice (some ⟨g,0,none⟩) L.length d)∧W.heap.size≤g∧L.length≤d∧Rb w' (some ⟨g,0,none⟩) L∧Gr W w') :
  Calls Try.prog 21 #[.pointer (some ⟨F,0,none⟩), .string nmA, .slice (some ⟨pb,0,none⟩) k c] w fun e w'=>e= .returned (.int .i64 0)∧∃R',FsM Y w' F P M R' room (n+1) (some L)∧Kp (Tch P M R) w w'∧∀i,R'=some i→R=some i∨w.heap.size≤i:=by
 have f2:=h.f2
 obtain ⟨clk,hb⟩:=h.mp
 obtain ⟨kl,hkl⟩:=keyA
 have hl:=look_none (P:=Try.prog) Try.underlying60 keyedS hkl (zeroSU w) hb true
 simp only[if_true] at hl
 have H0:=Lib.hid h
 have HTOT:=Lib.hid htot
 have HJ:=Lib.hid hjoin
 have hw1:IntKind.i64.wrap room=room:=IntWalk.i64_in room (by omega)
 have hw2:¬room<(L.length:Int):=by omega
 have hw3:decide (room<(L.length:Int))=false:=decide_eq_false hw2
 have hL9:(L.length:Int)≤1073741824:=by omega
 clear h hb htot hjoin
 go_enter Try.func21,Try.ntmps21
 go_upto_region 6 with (go_at_call 35;refine (isName_any nmA _).mono ?_;rintro e w1 ⟨rfl,rfl⟩;rw[nmA_ok])
 refine region_Q (by kernel_rfl) (by kernel_rfl) ?_
 refine qv ?_;simp only[Pu]
 refine q_call (v:= .int .i64 (L.length:Nat)) (f:=?qf2) (args:=?qa2) (by rfl) (fun W hW=>?qh2) (fun W hW=>?qc2) ?qr2
 case qh2=>go_simp;constructor<;>rfl
 case qc2=>exact (HTOT.out W hW).mono (fun e w' h=>⟨h.1,Gr.trans hW h.2⟩)
 simp only[Pu]
 iterate 3 (refine qv ?_;simp only[Pu])
 refine q_val (v:=?qv6) (by rfl) (fun W hW=>?qh6) ?qr6
 case qh6=>have s1:=(Below.cell hW (p:=⟨F,1,none⟩) H0.out.lf).trans H0.out.f1;go_simp;rfl
 simp only[Pu]
 refine qv ?_;simp only[Pu]
 refine q_call (v:= .int .i64 0) (f:=?qf8) (args:=?qa8) (by rfl) (fun W hW=>?qh8) (fun W hW=>?qc8) ?qr8
 case qh8=>go_simp;constructor<;>rfl
 case qc8=>exact (used_none W (H0.out.gr hW)).mono (fun e w' h=>⟨h.1,Gr.trans hW h.2⟩)
 simp only[Pu]
 iterate 2 (refine qv ?_;simp only[Pu])
 refine wpQuiet_nil ?_
 intro w6 g6
 clear hl f2
 have HG6:=Lib.hid g6
 clear g6
 go_wp2_with (first|(go_at_call 39;refine (HJ.out _ HG6.out).mono ?_;rintro e w7 ⟨g,d,rfl,hg,hd,hr,g7⟩;have HR:=Lib.hid (And.intro hd hr);have HG7:=Lib.hid (HG6.out.trans g7);clear hd hr g7 hg)|(go_at_call 38;refine (does_any 0 0 g L.length d hn _ (H0.out.gr HG7.out) (fun W gW=>applies_create L g d hL9 W ((H0.out.gr HG7.out).gr gW) (HR.out.2.gr gW))).mono ?_;rintro e w8 ⟨rfl,R',hF,hK,hf⟩;have H8:=Lib.hid (And.intro hF (And.intro hK hf));clear hF hK hf))
 go_ret
 refine ⟨rfl,_,H8.out.1,(Kp.of_gr (Tch P M R) HG7.out).trans H8.out.2.1 (fun _ _ e=>e),fun i hi=>?_⟩
 rcases H8.out.2.2 i hi with e|e
 ·
  exact .inl e
 ·
  exact .inr (Nat.le_trans HG7.out.size e)
end
theorem make_bytes (n:Nat) (hn:(n:Int)≤1048576) (w:World):(Instr.makeSlice 66 (.int .i64 (n:Nat)) (.int .i64 (n:Nat))).run Try.prog w= .ok (.slice (some ⟨w.heap.size,0,none⟩) n n) (w.alloc (.cells (bys (List.replicate n 0)).toArray 5)):=by
 obtain ⟨i0,hi0,hz0,hz1,hz2⟩:=info_parts info_u8
 have h:=run_makeSlice (P:=Try.prog) (w:=w) 66 5 i0 (.int .u8 0) Try.underlying66 hi0 hz0 .i64 .i64 (n:Nat) (n:Nat) (by omega) (Int.le_refl _) (by rw[hz1];simp;omega) (by rw[hz2];omega) (by omega)
 rw[h,hz1]
 simp only[Int.toNat_natCast,Nat.mul_one]
 have e:madeCells (Value.cells (.int .u8 0)) n=(bys (List.replicate n 0)).toArray:=by
  apply Array.ext
  ·
   simp[madeCells,bys]
  ·
   intro i h1 h2
   simp[madeCells,bys,Value.cells]
   rw[Nat.mod_one]
   rfl
 rw[e]
section
open Go.RowKit Go.ChangeMaps Go.Maps
theorem two_parts (w:World) (B Zs:List UInt8) (p:Addr) (c:Nat) (hb:Rb w (some p) B) (n:Nat) (hn:n=Zs.length):Pts ((w.alloc (.cells (bys Zs).toArray 5)).alloc (.cells #[.slice (some p) B.length c, .slice (some ⟨w.heap.size,0,none⟩) n n] 66)) (w.heap.size+1) [B,Zs]∧Gr w ((w.alloc (.cells (bys Zs).toArray 5)).alloc (.cells #[.slice (some p) B.length c, .slice (some ⟨w.heap.size,0,none⟩) n n] 66)):=by
 subst hn
 have g1:Gr w (w.alloc (.cells (bys Zs).toArray 5)):=Gr.alloc (Gr.refl _) _
 have g2:Gr (w.alloc (.cells (bys Zs).toArray 5)) ((w.alloc (.cells (bys Zs).toArray 5)).alloc (.cells #[.slice (some p) B.length c, .slice (some ⟨w.heap.size,0,none⟩) Zs.length Zs.length] 66)):=Gr.alloc (Gr.refl _) _
 have hz:Rb (w.alloc (.cells (bys Zs).toArray 5)) (some ⟨w.heap.size,0,none⟩) Zs:=Rd.newU (W:=w) rfl _ (bys Zs) (bys_length Zs)
 refine ⟨fun k hk=>?_,g1.trans g2⟩
 match k,hk with
 | 0,_=>exact ⟨p,c,by go_simp,hb.gr (g1.trans g2)⟩
 | 1,_=>exact ⟨⟨w.heap.size,0,none⟩,Zs.length,by go_simp,hz.gr g2⟩
 | k+2,h=>exact absurd h (by simp)
theorem fcreate_two {Y:Nat→Prop} {F P M:Nat} {R:Option Nat} {room:Int} {n:Nat} (pb c:Nat) (B Zs:List UInt8) (hB0:0<B.length) (hL:((B++Zs).length:Int)≤room) (hroom:room≤1073741824) (hn:n≤1000000) (hc:2≤c) (w:World) (h:FsM Y w F P M R room n none) (hp:Pts w pb [B,Zs]) :
  Calls Try.prog 21 #[.pointer (some ⟨F,0,none⟩), .string nmA, .slice (some ⟨pb,0,none⟩) 2 c] w fun e w'=>e= .returned (.int .i64 0)∧∃R',FsM Y w' F P M R' room (n+1) (some (B++Zs))∧Kp (Tch P M R) w w'∧∀i,R'=some i→R=some i∨w.heap.size≤i:=by
 have hlen:(B++Zs).length=B.length+Zs.length:=List.length_append
 have hs:([B,Zs].map List.length).sum=(B++Zs).length:=by rw[hlen];simp
 refine fcreate_new pb 2 c (B++Zs) hL hroom hn w h (fun W gW=>?_) (fun W gW=>join_two pb c B Zs hB0 (by omega) hc W (hp.gr gW))
 refine (total_any pb 0 2 c [B,Zs] rfl (by omega) (by rw[hs];omega) W (fun k hk=>?_)).mono ?_
 ·
  obtain ⟨p,d,h1, -⟩:=(hp.gr gW) k hk
  exact ⟨some p,d,by rw[Nat.zero_add];exact h1⟩
 ·
  rintro e w' ⟨rfl,rfl⟩
  exact ⟨by rw[hs],Gr.refl _⟩
end
section
open Go.RowKit Go.ChangeMaps Go.Maps
theorem wcreate_any {Y:Nat→Prop} {F P M:Nat} {R:Option Nat} {room:Int} {n:Nat} (ag xf:Nat) (A:Option Addr) (c:Nat) (m:List (Nat×Nat)) (hM:mayH ag xf (ints m)=true) (hcap:m.length≤c) (hn:n≤1000000) (hr1:(sizeS m:Int)≤room) (hr2:room≤1073741824) (w:World) (h:FsM Y w F P M R room n none) (hr:Ri w A (ints m)):Calls Try.prog 9 #[.pointer (some ⟨F,0,none⟩), .string nmA, .agg #[.int .i64 ag, .int .i64 xf, .slice A m.length c]] w fun e w'=>e= .returned (.int .i64 0)∧FsM Y w' F P M none room 0 (some (hdrS ag xf m++List.replicate (sizeS m-(16+12*m.length)) 0))∧Kp (Tch P M R) w w':=by
 obtain ⟨i0,hi0,hz0,hz1,hz2⟩:=info_parts info_u8
 obtain ⟨V,hV⟩:∃V,V=w.alloc (.cells #[.int .i64 ag, .int .i64 xf, .slice A m.length c] 24):=⟨_,rfl⟩
 have gV:Gr w V:=by rw[hV];exact Gr.alloc (Gr.refl w) _
 have hz:w.heap.size<V.heap.size:=by rw[hV];simp
 have c0:V.cell? ⟨w.heap.size,0,none⟩=some (.int .i64 ag):=by rw[hV];go_simp
 have c1:V.cell? ⟨w.heap.size,1,none⟩=some (.int .i64 xf):=by rw[hV];go_simp
 have c2:V.cell? ⟨w.heap.size,2,none⟩=some (.slice A m.length c):=by rw[hV];go_simp
 have HE:=Lib.hid (hencode_any ag xf A c m hM hcap V (hr.gr gV))
 have hf:=mayS_facts (m:=m) (by have h:=hM;unfold mayH at h;rw[Bool.and_eq_true,nats_ints] at h;exact h.2)
 have hss:=fun W (hW:Ri W A (ints m))=>hsize_any ag xf A c (ints m) (by rw[ints_len];omega) W hW
 rw[hM,nats_ints,ints_len] at hss
 have hsz:=sizeS_eq m
 have hsl:=hdrS_len ag xf m
 obtain ⟨S,hS⟩:∃S,S=sizeS m:=⟨_,rfl⟩
 obtain ⟨B,hB⟩:∃B,B=hdrS ag xf m:=⟨_,rfl⟩
 rw[←hS] at hss hsz hf hr1 ⊢
 rw[←hB] at hsl HE ⊢
 rw[←hsl] at hsz ⊢
 have hKS:(B.length:Int)≤(S:Int):=by omega
 have hSi:(S:Int)≤1048576:=by omega
 have hK0:B.length≤112:=by omega
 have hw1:IntKind.i64.wrap ((S:Int)-(B.length:Int))=(S:Int)-(B.length:Int):=IntWalk.i64_in _ (by omega)
 have hw2:¬(S:Int)-(B.length:Int)<0:=by omega
 obtain ⟨Z,hZ⟩:∃Z,Z=S-B.length:=⟨_,rfl⟩
 have hZi:(Z:Int)=(S:Int)-(B.length:Int):=by omega
 have hmk:=fun W=>make_bytes Z (by omega) W
 rw[hZi] at hmk
 rw[←hZ]
 have hB0:0<B.length:=by omega
 have hBZ:(B++List.replicate Z 0).length=S:=by rw[List.length_append,List.length_replicate];omega
 have HBZ:=Lib.hid hBZ
 have hZl:Z=(List.replicate Z (0:UInt8)).length:=by rw[List.length_replicate]
 have HZL:=Lib.hid hZl
 have HSR:Hid ((S:Int)≤room):=Lib.hid (by omega)
 clear hZ hZi hZl hBZ
 have HSS:=Lib.hid hss
 have HR:=Lib.hid (hr.gr gV)
 have HV:=Lib.hid hV
 have HG:=Lib.hid gV
 have H0:=Lib.hid (h.gr gV)
 have HX:=Lib.hid (And.intro hf (And.intro hsz (And.intro hS (And.intro hB hsl))))
 clear hV gV hr hM h hss hf hsz hS hB hsl
 go_enter Try.func9,Try.ntmps9
 go_upto_region 1 with (fail)
 rw[←HV.out]
 clear HV
 go_upto_region 6 with (go_at_call 20;refine HE.out.mono ?_;rintro e w1 ⟨A5,c5,rfl,hc5,hb5,g1,hf5⟩;have d0:=(Below.cell g1 (p:=⟨w.heap.size,0,none⟩) hz).trans c0;have d1:=(Below.cell g1 (p:=⟨w.heap.size,1,none⟩) hz).trans c1;have d2:=(Below.cell g1 (p:=⟨w.heap.size,2,none⟩) hz).trans c2;have HG1:=Lib.hid g1;obtain ⟨p5,rfl,hp5, -⟩:=hb5.2 hB0;have HB5:=Lib.hid (And.intro hb5 hp5);clear g1 hb5 hf5 hp5)
 go_wp2_with (first|(go_at_call 22;refine (HSS.out _ (HR.out.gr HG1.out)).mono ?_;rintro e w2 ⟨rfl,g2⟩;have HG2:=Lib.hid (HG1.out.trans g2);have HB2:=Lib.hid (HB5.out.1.gr g2);clear g2)|(go_at_call 21;refine (fcreate_two (w2.heap.size+1) 2 B (List.replicate Z 0) hB0 (by rw[HBZ.out];exact HSR.out) hr2 hn (by omega) _ ((H0.out.gr HG2.out).gr (two_parts w2 B (List.replicate Z 0) p5 c5 HB2.out Z HZL.out).2) (two_parts w2 B (List.replicate Z 0) p5 c5 HB2.out Z HZL.out).1).mono ?_;rintro e w8 ⟨rfl,R',hF,hK,hf⟩;have H8:=Lib.hid (And.intro hF (And.intro (hK.size) (And.intro hf ((Kp.of_gr (Tch P M R) (HG.out.trans (HG2.out.trans (two_parts w2 B (List.replicate Z 0) p5 c5 HB2.out Z HZL.out).2))).trans hK (fun _ _ e=>e)))));clear hF hK hf)|(go_at_call 23;refine (sync_any _ H8.out.1).mono ?_;rintro e w9 ⟨rfl,hF,hK⟩;have H9:=Lib.hid (And.intro hF (H8.out.2.2.2.trans hK (fun _ _ e=> .inl e)));clear hF hK))
 go_ret
 exact ⟨rfl,H9.out⟩
end
section
open Go.RowKit Go.ChangeMaps Go.Maps
theorem vnew_any (room:Int) (h0:0≤room) (h1:room≤1073741824) (w:World):Calls Try.prog 8 #[.int .i64 room] w fun e w'=>e= .returned (.tuple #[.pointer (some ⟨w.heap.size+3,0,none⟩), .int .i64 0])∧FsM (fun _=>False) w' (w.heap.size+3) (w.heap.size+1) (w.heap.size+2) none room 0 none∧Gr w w':=by
 obtain ⟨V,hV⟩:∃V,V=(((w.alloc (.map #[] 0)).alloc (.cells #[.slice none 0 0, .map (some w.heap.size)] 63)).alloc (.map #[] 0)).alloc (.cells #[.pointer (some ⟨w.heap.size+1,0,none⟩), .int .i64 room, .map (some (w.heap.size+2))] 65):=⟨_,rfl⟩
 have gV:Gr w V:=by rw[hV];exact Gr.alloc (Gr.alloc (Gr.alloc (Gr.alloc (Gr.refl w) _) _) _) _
 have hz:V.heap.size=w.heap.size+4:=by rw[hV];simp
 have hm:V.heap[w.heap.size+2]?=some (.map #[] 0):=by
  rw[hV,heap_alloc_old _ _ (by simp)]
  have e:w.heap.size+2=((w.alloc (.map #[] 0)).alloc (.cells #[.slice none 0 0, .map (some w.heap.size)] 63)).heap.size:=by simp
  rw[e]
  exact heap_alloc_new _ _
 have HF:Hid (FsM (fun _=>False) V (w.heap.size+3) (w.heap.size+1) (w.heap.size+2) none room 0 none):=Lib.hid ⟨by omega,by omega,by omega,by omega,by omega,by omega,by rw[hV];go_simp,by rw[hV];go_simp,by rw[hV];go_simp,
  ⟨.slice none 0 0,[],by rw[hV];go_simp,rfl,World.ownsRow_nil _ _ _ _⟩,⟨.map (some w.heap.size),by rw[hV];go_simp⟩,by rw[hV];go_simp,by rw[hV];go_simp,(fun _ e=>by cases e),(fun _ e=>e.elim),⟨0,hm⟩⟩
 have HV:=Lib.hid hV
 have HG:=Lib.hid gV
 have hm1:¬room<0:=by omega
 have hm2:¬1073741824<room:=by omega
 clear hV gV hm hz
 have hmm:= @run_makeMap Try.prog
 go_enter Try.func8,Try.ntmps8
 go_wp2
 go_ret2
 refine ⟨rfl,?_,?_⟩
 ·
  have:=HF.out
  rw[HV.out] at this
  exact this
 ·
  have:=HG.out
  rw[HV.out] at this
  exact this
end
end Go.Proofs.Ytoncapkmaeghfaa
