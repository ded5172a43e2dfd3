import Derived.Test.YtnphdacibageiaaGreatRunFpPlain
import Derived.Test.YtnphdacibageiaaGreatRunFpApplT
import Derived.Test.YtnphdacibageiaaGreatRunSrIs
import Derived.Deep.CutRange
import Derived.Test.YtnphdacibageiaaGreatRunFxBase
import Derived.Outline
set_option linter.all false
set_option maxRecDepth 1000000
set_option maxHeartbeats 12800000
namespace Go.Proofs.YtnphdacibageiaaGreat
open Go.RowKit
theorem rdev_any (A:Option Addr) (c:Nat) (l:List Vl) (w:World) (hl:l.length≤1000000) (hr:Rv w A l) :
  Calls Tryz.prog 37 #[.slice A l.length c] w fun e w'=>e= .returned (.agg #[.bool (devV l).ok, .int .i64 (devV l).n])∧Gr w w':=by
 obtain ⟨i0,hi,hz0,hz1,hz2⟩:=info_parts info_val
 have hkl:=kn_len l
 go_enter Tryz.func37,Tryz.ntmps37
 go_wp2_with fail
 refine (rknown_vals_any A c l _ hl ?hr).mono ?_
 case hr=>exact hr.gr gq
 rintro e w1 ⟨A1,c1,rfl,hr1,hg1⟩
 have z1:=hg1.size
 simp at z1
 have z0:w.heap.size<w1.heap.size:=by omega
 have p0:w1.cell? ⟨w.heap.size,0,none⟩=some (.bool false):=(hg1.cell (p:=⟨w.heap.size,0,none⟩) (by simp)).trans (by go_simp)
 have p1:w1.cell? ⟨w.heap.size,1,none⟩=some (.int .i64 0):=(hg1.cell (p:=⟨w.heap.size,1,none⟩) (by simp)).trans (by go_simp)
 have f0:w1.frozen? ⟨w.heap.size,0,none⟩=false:=(hg1.frozen (p:=⟨w.heap.size,0,none⟩) (by simp)).trans (by go_simp)
 have f1:w1.frozen? ⟨w.heap.size,1,none⟩=false:=(hg1.frozen (p:=⟨w.heap.size,1,none⟩) (by simp)).trans (by go_simp)
 have hgw1:Gr w w1:=gq
 clear hg1 z1
 go_wp2_with fail
 refine (ragg_of_any 1 A1 c1 (kn l) _ (by omega) hr1).mono ?_
 rintro e w2 ⟨rfl,hg2⟩
 obtain ⟨M,hM⟩:∃M,aggV 1 (kn l)=M:=⟨_,rfl⟩
 have HSQ:Hid (sqL l=(kn l).map (sqF M)):=Lib.hid (by rw[←hM];rfl)
 rw[hM]
 clear hM
 replace p0:=(hg2.cell (p:=⟨w.heap.size,0,none⟩) z0).trans p0
 replace p1:=(hg2.cell (p:=⟨w.heap.size,1,none⟩) z0).trans p1
 replace f0:=(hg2.frozen (p:=⟨w.heap.size,0,none⟩) z0).trans f0
 replace f1:=(hg2.frozen (p:=⟨w.heap.size,1,none⟩) z0).trans f1
 have z2:w.heap.size<w2.heap.size:=Nat.lt_of_lt_of_le z0 hg2.size
 have hr2:=hr1.gr hg2
 have hgw2:=Gr.trans hgw1 hg2
 obtain ⟨K,hK⟩:∃K,kn l=K:=⟨_,rfl⟩
 obtain ⟨SQ,hSQ⟩:∃SQ,sqL l=SQ:=⟨_,rfl⟩
 have hlen:SQ.length=K.length:=by rw[←hK,←hSQ];exact sqL_len l
 have hK6:K.length≤1000000:=by rw[←hK];omega
 have HQ:Hid (∀k (h:k<K.length) (h':k<SQ.length),SQ[k]=mulV (subV K[k] M) (subV K[k] M)):=Lib.hid (fun k h h'=>by subst hK hSQ;exact map_at HSQ.out h h')
 have HN:Hid (∀k (h:k<SQ.length),(SQ[k]).ok=false→devV l=⟨false,0⟩):=Lib.hid (fun k h h'=>by subst hSQ;exact dev_no h h')
 have HY:Hid (SQ.all (·.ok)=true→devV l=sqrtV (aggV 1 SQ)):=Lib.hid (fun h=>by subst hSQ;exact dev_yes h)
 rw[hK] at hr2 ⊢
 have HL:=Lib.hid hlen
 clear hr1 hr HSQ hg2 hgw1 hkl hlen hK hSQ z0 hl
 go_wp2
 have m0:(w2.alloc (.cells #[.bool M.ok, .int .i64 M.n] 25)).cell? ⟨w2.heap.size,0,none⟩=some (.bool M.ok):=by go_simp
 have m1:(w2.alloc (.cells #[.bool M.ok, .int .i64 M.n] 25)).cell? ⟨w2.heap.size,1,none⟩=some (.int .i64 M.n):=by go_simp
 have zm:w2.heap.size<(w2.alloc (.cells #[.bool M.ok, .int .i64 M.n] 25)).heap.size:=by simp
 have gm:Gr w2 (w2.alloc (.cells #[.bool M.ok, .int .i64 M.n] 25)):=gq
 replace p0:=(gm.cell (p:=⟨w.heap.size,0,none⟩) z2).trans p0
 replace p1:=(gm.cell (p:=⟨w.heap.size,1,none⟩) z2).trans p1
 replace f0:=(gm.frozen (p:=⟨w.heap.size,0,none⟩) z2).trans f0
 replace f1:=(gm.frozen (p:=⟨w.heap.size,1,none⟩) z2).trans f1
 have hr3:=hr2.gr gm
 have hgw3:=Gr.trans hgw2 gm
 have z3:=Nat.lt_of_lt_of_le z2 gm.size
 clear hr2 hgw2 gm z2
 generalize (w2.alloc (.cells #[.bool M.ok, .int .i64 M.n] 25))=W0 at m0 m1 zm p0 p1 f0 f1 hr3 hgw3 z3 ⊢
 generalize w2.heap.size=Bm at m0 m1 zm ⊢
 have HP:=Lib.hid (And.intro (And.intro p0 p1) (And.intro f0 f1))
 have HM:=Lib.hid (And.intro m0 m1)
 clear p0 p1 f0 f1 m0 m1
 go_loopw [5,6] (fun v i wr=>∃k:Nat,k≤K.length∧i= .int .i64 k∧Gr W0 wr∧wr.ownsRow W0.heap.size 25 2 v k (vcells (SQ.take k))∧Hid ((SQ.take k).all (·.ok)=true)) (fun _ i _=>K.length-(intOf i).toNat)
 case atStart=>exact ⟨0,Nat.zero_le _,rfl,Gr.refl _,World.ownsRow_nil _ _ _ _,Lib.hid rfl⟩
 case round=>
  obtain ⟨k,hk,rfl,hgr,hown,hall⟩:=hrel
  have m0:=(hgr.cell (p:=⟨Bm,0,none⟩) zm).trans HM.out.1
  have m1:=(hgr.cell (p:=⟨Bm,1,none⟩) zm).trans HM.out.2
  have zr:=hgr.size
  have zB:Bm<wr.heap.size:=by omega
  by_cases hlt:k<K.length
  ·
   have hlt':k<SQ.length:=by rw[HL.out];exact hlt
   obtain ⟨ad,rfl,hb,hx0,hx1⟩:=(hr3.gr hgr).at hlt
   have Hq:=Lib.hid (HQ.out k hlt hlt')
   have Hn:=Lib.hid (HN.out k hlt')
   have Ht:=Lib.hid (allok_take hlt')
   have Hs:=Lib.hid (List.take_succ_eq_append_getElem hlt')
   generalize K[k]=v at hx0 hx1 Hq
   have hbb:(ad.add (k*2)).block<wr.heap.size:=by rw[add_blk];exact hb
   generalize hd:subV v M=d at Hq
   have HD:=Lib.hid hd;clear hd
   go_upto_region 7 with (fail)
   go_cut [7] from 13 to 35 (fun p wx=>∃bd:Nat,p= .pointer (some ⟨bd,0,none⟩)∧bd<wx.heap.size∧Gr wr wx∧wx.cell? ⟨bd,0,none⟩=some (.bool d.ok)∧wx.cell? ⟨bd,1,none⟩=some (.int .i64 d.n))
   case first=>
    clear Hq Hn Ht Hs
    refine wp_region_Z 7 (fun W=>Gr wr W) (by kernel_rfl) ?_
    have hS0:Gr wr wr.drew:=Gr.drew (Gr.refl _)
    generalize wr.drew=V at hS0 ⊢
    refine zt 0 rfl hS0 (fun W hS=>by go_simp;rfl) ?_
    refine zt 1 rfl hS0 (fun W hS=>by go_simp;rfl) ?_
    refine zt 2 rfl hS0 (fun W hS=>by go_simp;rfl) ?_
    refine zt 3 rfl hS0 (fun W hS=>by have y0:=(hS.cell (p:=ad.add (k*2)) hbb).trans hx0;have y1:=(hS.cell (p:=⟨(ad.add (k*2)).block,(ad.add (k*2)).off+1,none⟩) hbb).trans hx1;go_simp;rfl) ?_
    refine zt 4 rfl hS0 (fun W hS=>by have y0:=(hS.cell (p:=⟨Bm,0,none⟩) zB).trans m0;have y1:=(hS.cell (p:=⟨Bm,1,none⟩) zB).trans m1;go_simp;rfl) ?_
    refine wpAnyZ_ready (rs:=[5,6]) (by kernel_rfl) (by simp) ?_
    refine AllReadyZ.cons rfl (by rfl) (fun K hK=>?_) (AllReadyZ.cons rfl (by rfl) (fun K hK=>?_) AllReadyZ.nil)
    ·
     go_simp
     refine (rsub_any v M _).mono ?_;rintro e w3 ⟨rfl,hg3⟩
     have hS1:=Gr.trans hS0 hg3
     go_wp2_with fail
     refine hK.out _ _ (fun hnz=>?s6) (fun _=>?r6)
     case s6=>exact hS1
     clear hK K
     try simp only[Pu]
     refine zs 6 rfl (fun K hK=>?_)
     have hS2:=Gr.alloc hS1 (.cells #[.bool false, .int .i64 0] 25)
     go_wp2_with fail
     refine hK.out _ _ (fun hnz=>?s7) (fun _=>?r7)
     case s7=>exact hS2
     clear hK K
     try simp only[Pu]
     refine zs 7 rfl (fun K hK=>?_)
     go_wp2_with fail
     refine hK.out _ _ (fun hnz=>?s8) (fun _=>?r8)
     case s8=>exact absurd rfl hnz
     clear hK K
     try simp only[Pu]
     refine wpAnyZ_done (by kernel_rfl) ?_ _
     go_wp2_with fail
     go_meet
     exact ⟨w3.heap.size,rfl,by simp,Gr.alloc hS1 _,by rw[←HD.out];go_simp,by rw[←HD.out];go_simp⟩
    ·
     have hS1:=Gr.alloc hS0 (.cells #[.bool false, .int .i64 0] 25)
     go_wp2_with fail
     refine hK.out _ _ (fun hnz=>?s9) (fun _=>?r9)
     case s9=>exact hS1
     clear hK K
     try simp only[Pu]
     refine zs 5 rfl (fun K hK=>?_)
     go_simp
     refine (rsub_any v M _).mono ?_;rintro e w3 ⟨rfl,hg3⟩
     have hS2:=Gr.trans hS1 hg3
     have hsz:=hg3.size
     simp at hsz
     have zV:V.heap.size<w3.heap.size:=by omega
     have p0:w3.cell? ⟨V.heap.size,0,none⟩=some (.bool false):=(hg3.cell (p:=⟨V.heap.size,0,none⟩) (by simp)).trans (by go_simp)
     have p1:w3.cell? ⟨V.heap.size,1,none⟩=some (.int .i64 0):=(hg3.cell (p:=⟨V.heap.size,1,none⟩) (by simp)).trans (by go_simp)
     have f0:w3.frozen? ⟨V.heap.size,0,none⟩=false:=(hg3.frozen (p:=⟨V.heap.size,0,none⟩) (by simp)).trans (by go_simp)
     have f1:w3.frozen? ⟨V.heap.size,1,none⟩=false:=(hg3.frozen (p:=⟨V.heap.size,1,none⟩) (by simp)).trans (by go_simp)
     go_wp2_with fail
     refine hK.out _ _ (fun hnz=>?s10) (fun _=>?r10)
     case s10=>exact hS2
     clear hK K
     try simp only[Pu]
     refine zs 7 rfl (fun K hK=>?_)
     go_wp2_with fail
     refine hK.out _ _ (fun hnz=>?s11) (fun _=>?r11)
     case s11=>exact absurd rfl hnz
     clear hK K
     try simp only[Pu]
     refine wpAnyZ_done (by kernel_rfl) ?_ _
     go_wp2_with fail
     go_meet
     exact ⟨V.heap.size,rfl,by simpa using zV,Gr.setCell (Gr.setCell hS2 hS0.size _) hS0.size _,by rw[←HD.out];go_simp,by rw[←HD.out];go_simp⟩
   case rest=>
   obtain ⟨bd,rfl,hbd,g3,hd0,hd1⟩:=hcut
   have hown3:=own_gr hown g3
   clear m0 m1 hx0 hx1 HD
   generalize wc=w3 at hbd g3 hd0 hd1 hown3 ⊢
   go_wp2_with fail
   refine (rmul_any d d _).mono ?_;rintro e w4 ⟨rfl,hg4⟩
   have g4:Gr w3 w4:=gq
   have g5:=Gr.trans (Gr.trans hgr g3) g4
   have hown4:=own_gr hown3 g4
   clear hg4 g3 g4 hown hown3 hgr
   generalize SQ[k]=q0 at Hq Hn Ht Hs
   obtain ⟨q,hq⟩:∃q,mulV d d=q:=⟨_,rfl⟩
   have Hqq:Hid (q0=q):=Lib.hid (Hq.out.trans hq)
   rw[hq]
   clear hq Hq
   obtain ⟨qo,qn⟩:=q
   obtain rfl:=Hqq.out
   clear Hqq
   cases qo
   case false=>
    have HV:=Lib.hid (Hn.out rfl)
    have p0:=(g5.cell (p:=⟨w.heap.size,0,none⟩) z3).trans HP.out.1.1
    have p1:=(g5.cell (p:=⟨w.heap.size,1,none⟩) z3).trans HP.out.1.2
    have f0:=(g5.frozen (p:=⟨w.heap.size,0,none⟩) z3).trans HP.out.2.1
    have f1:=(g5.frozen (p:=⟨w.heap.size,1,none⟩) z3).trans HP.out.2.2
    have z4:=Nat.lt_of_lt_of_le z3 g5.size
    have gw:=Gr.trans hgw3 g5
    clear hown4 g5
    go_wp2
    exact bodyPost_ret (v:= .agg #[.bool false, .int .i64 0]) (by simp[results,Tryz.results37,go_sem, *]) rfl ⟨by rw[HV.out],gq⟩
   case true=>
    have z5:=g5.size
    have hrx:Rv ((w4.alloc (.cells (vcells [⟨true,qn⟩]).toArray 25)).alloc (.cells (vcells [⟨true,qn⟩]).toArray 25)) (some ⟨w4.heap.size+1,0,none⟩) [⟨true,qn⟩]:=Rv.new (by simp) 25 [⟨true,qn⟩]
    have hv0:=(hown4.alloc (.cells (vcells [⟨true,qn⟩]).toArray 25)).alloc (.cells (vcells [⟨true,qn⟩]).toArray 25)
    have hvl:=(hown4.alloc (.cells (vcells [⟨true,qn⟩]).toArray 25)).lt
    have g6:Gr W0 (w4.alloc (.cells (vcells [⟨true,qn⟩]).toArray 25)):=gq
    go_wp2_with (at_builtin;go_loud (refine wpList_append_rd rfl (.tmp 32) (.tmp 34) 32 rfl W0.heap.size 25 i0 _ 2 16 Tryz.underlying32 hi hz0 hz1 hz2 rfl (by decide) _ _ _ rfl hv0 (some ⟨w4.heap.size+1,0,none⟩) 1 _ (vcells [⟨true,qn⟩]) rfl hrx (vcells_one _) (by unfold maxLen;omega) (by omega) (by simp;omega) ?_;intro v' w6 hown6 hgr6 hat6))
    have hg6:Gr W0 w6:=Gr.grown (Gr.alloc g6 _) hgr6 (fun k hk=>(hvl k hk).1)
    clear hv0 hvl hgr6 hat6 hrx g6
    go_wp2
    go_roundw
    case rel=>exact ⟨k+1,by omega,by go_num,hg6,by rw[Hs.out,vcells_append];exact hown6,Lib.hid (by rw[Ht.out,hall.out];rfl)⟩
    case measure=>simp[intOf];omega
  ·
   have hkk:k=K.length:=by omega
   subst hkk
   have hT:SQ.take K.length=SQ:=by rw[←HL.out,List.take_length]
   rw[hT] at hown hall
   obtain ⟨A',c',hv⟩:=own_form hown
   subst hv
   have hrs:Rv wr A' SQ:=by have h:=Rd.own hown;unfold Rv;rw[HL.out];exact h
   have HV:=Lib.hid (HY.out hall.out)
   have QA:=ragg_of_any 1 A' c' SQ
   rw[HL.out] at QA
   have QA:=Lib.hid (QA wr hK6 hrs)
   clear hT hown m0 m1 hrs
   go_wp2_with fail
   refine QA.out.mono ?_;rintro e w5 ⟨rfl,hg5⟩
   generalize aggV 1 SQ=V at HV ⊢
   go_wp2_with fail
   refine (rsqrt_any V _).mono ?_;rintro e w6 ⟨rfl,hg6⟩
   generalize sqrtV V=x at HV ⊢
   have g5:=Gr.trans (Gr.trans hgr hg5) hg6
   have p0:=(g5.cell (p:=⟨w.heap.size,0,none⟩) z3).trans HP.out.1.1
   have p1:=(g5.cell (p:=⟨w.heap.size,1,none⟩) z3).trans HP.out.1.2
   have f0:=(g5.frozen (p:=⟨w.heap.size,0,none⟩) z3).trans HP.out.2.1
   have f1:=(g5.frozen (p:=⟨w.heap.size,1,none⟩) z3).trans HP.out.2.2
   have z4:=Nat.lt_of_lt_of_le z3 g5.size
   have gw:=Gr.trans hgw3 g5
   clear hg5 hg6 g5 hgr QA
   go_wp2
   exact bodyPost_ret (v:= .agg #[.bool x.ok, .int .i64 x.n]) (by simp[results,Tryz.results37,go_sem, *]) rfl ⟨by rw[HV.out],gq⟩
theorem rfof_0 (nm:ByteArray) (s:Sr) (A:Option Addr) (c:Nat) (w:World) (hl:s.vals.length≤1000000) (hr:Rv w A s.vals) (e0:(nm.toList==[115,111,114,116,66,121,77,97,120,105,109,97])=true) :
  Calls Tryz.prog 14 #[.string nm,aggSr s A c] w (RetVl (aggV 4 s.vals) w):=by
 unfold aggSr
 go_enter Tryz.func14,Tryz.ntmps14
 go_wp2_with fail
 refine (ragg_of_any 4 A c s.vals _ hl ?hr).mono ?_
 case hr=>exact hr.gr gq
 rintro e w1 ⟨rfl,hg⟩
 have z1:=hg.size
 simp at z1
 have z0:w.heap.size<w1.heap.size:=by omega
 have z2:w.heap.size+1<w1.heap.size:=by omega
 obtain ⟨hc,hf⟩:=hg.cells
 have q0:w1.cell? ⟨w.heap.size+1,0,none⟩=some (.bool false):=by go_simp
 have q1:w1.cell? ⟨w.heap.size+1,1,none⟩=some (.int .i64 0):=by go_simp
 have f0:w1.frozen? ⟨w.heap.size+1,0,none⟩=false:=by go_simp
 have f1:w1.frozen? ⟨w.heap.size+1,1,none⟩=false:=by go_simp
 have gw:Gr w w1:=gq
 clear hc hf hg
 go_wp2
 exact bodyPost_ret (v:= .agg #[.bool (aggV 4 s.vals).ok, .int .i64 (aggV 4 s.vals).n]) (by simp[results,Tryz.results14,go_sem, *]) rfl ⟨rfl,gq⟩
theorem rfof_1 (nm:ByteArray) (s:Sr) (A:Option Addr) (c:Nat) (w:World) (hl:s.vals.length≤1000000) (hr:Rv w A s.vals) (e0:(nm.toList==[115,111,114,116,66,121,77,97,120,105,109,97])=false) (e1:(nm.toList==[104,105,103,104,101,115,116,77,97,120])=true) :
  Calls Tryz.prog 14 #[.string nm,aggSr s A c] w (RetVl (aggV 4 s.vals) w):=by
 unfold aggSr
 go_enter Tryz.func14,Tryz.ntmps14
 go_wp2_with fail
 refine (ragg_of_any 4 A c s.vals _ hl ?hr).mono ?_
 case hr=>exact hr.gr gq
 rintro e w1 ⟨rfl,hg⟩
 have z1:=hg.size
 simp at z1
 have z0:w.heap.size<w1.heap.size:=by omega
 have z2:w.heap.size+1<w1.heap.size:=by omega
 obtain ⟨hc,hf⟩:=hg.cells
 have q0:w1.cell? ⟨w.heap.size+1,0,none⟩=some (.bool false):=by go_simp
 have q1:w1.cell? ⟨w.heap.size+1,1,none⟩=some (.int .i64 0):=by go_simp
 have f0:w1.frozen? ⟨w.heap.size+1,0,none⟩=false:=by go_simp
 have f1:w1.frozen? ⟨w.heap.size+1,1,none⟩=false:=by go_simp
 have gw:Gr w w1:=gq
 clear hc hf hg
 go_wp2
 exact bodyPost_ret (v:= .agg #[.bool (aggV 4 s.vals).ok, .int .i64 (aggV 4 s.vals).n]) (by simp[results,Tryz.results14,go_sem, *]) rfl ⟨rfl,gq⟩
theorem rfof_2 (nm:ByteArray) (s:Sr) (A:Option Addr) (c:Nat) (w:World) (hl:s.vals.length≤1000000) (hr:Rv w A s.vals) (e0:(nm.toList==[115,111,114,116,66,121,77,97,120,105,109,97])=false) (e1:(nm.toList==[104,105,103,104,101,115,116,77,97,120])=false) (e2:(nm.toList==[109,97,120,105,109,117,109,65,98,111,118,101])=true) :
  Calls Tryz.prog 14 #[.string nm,aggSr s A c] w (RetVl (aggV 4 s.vals) w):=by
 unfold aggSr
 go_enter Tryz.func14,Tryz.ntmps14
 go_wp2_with fail
 refine (ragg_of_any 4 A c s.vals _ hl ?hr).mono ?_
 case hr=>exact hr.gr gq
 rintro e w1 ⟨rfl,hg⟩
 have z1:=hg.size
 simp at z1
 have z0:w.heap.size<w1.heap.size:=by omega
 have z2:w.heap.size+1<w1.heap.size:=by omega
 obtain ⟨hc,hf⟩:=hg.cells
 have q0:w1.cell? ⟨w.heap.size+1,0,none⟩=some (.bool false):=by go_simp
 have q1:w1.cell? ⟨w.heap.size+1,1,none⟩=some (.int .i64 0):=by go_simp
 have f0:w1.frozen? ⟨w.heap.size+1,0,none⟩=false:=by go_simp
 have f1:w1.frozen? ⟨w.heap.size+1,1,none⟩=false:=by go_simp
 have gw:Gr w w1:=gq
 clear hc hf hg
 go_wp2
 exact bodyPost_ret (v:= .agg #[.bool (aggV 4 s.vals).ok, .int .i64 (aggV 4 s.vals).n]) (by simp[results,Tryz.results14,go_sem, *]) rfl ⟨rfl,gq⟩
theorem rfof_3 (nm:ByteArray) (s:Sr) (A:Option Addr) (c:Nat) (w:World) (hl:s.vals.length≤1000000) (hr:Rv w A s.vals) (e0:(nm.toList==[115,111,114,116,66,121,77,97,120,105,109,97])=false) (e1:(nm.toList==[104,105,103,104,101,115,116,77,97,120])=false) (e2:(nm.toList==[109,97,120,105,109,117,109,65,98,111,118,101])=false) (e3:(nm.toList==[109,97,120,105,109,117,109,66,101,108,111,119])=true) :
  Calls Tryz.prog 14 #[.string nm,aggSr s A c] w (RetVl (aggV 4 s.vals) w):=by
 unfold aggSr
 go_enter Tryz.func14,Tryz.ntmps14
 go_wp2_with fail
 refine (ragg_of_any 4 A c s.vals _ hl ?hr).mono ?_
 case hr=>exact hr.gr gq
 rintro e w1 ⟨rfl,hg⟩
 have z1:=hg.size
 simp at z1
 have z0:w.heap.size<w1.heap.size:=by omega
 have z2:w.heap.size+1<w1.heap.size:=by omega
 obtain ⟨hc,hf⟩:=hg.cells
 have q0:w1.cell? ⟨w.heap.size+1,0,none⟩=some (.bool false):=by go_simp
 have q1:w1.cell? ⟨w.heap.size+1,1,none⟩=some (.int .i64 0):=by go_simp
 have f0:w1.frozen? ⟨w.heap.size+1,0,none⟩=false:=by go_simp
 have f1:w1.frozen? ⟨w.heap.size+1,1,none⟩=false:=by go_simp
 have gw:Gr w w1:=gq
 clear hc hf hg
 go_wp2
 exact bodyPost_ret (v:= .agg #[.bool (aggV 4 s.vals).ok, .int .i64 (aggV 4 s.vals).n]) (by simp[results,Tryz.results14,go_sem, *]) rfl ⟨rfl,gq⟩
theorem rfof_4 (nm:ByteArray) (s:Sr) (A:Option Addr) (c:Nat) (w:World) (hl:s.vals.length≤1000000) (hr:Rv w A s.vals) (e0:(nm.toList==[115,111,114,116,66,121,77,97,120,105,109,97])=false) (e1:(nm.toList==[104,105,103,104,101,115,116,77,97,120])=false) (e2:(nm.toList==[109,97,120,105,109,117,109,65,98,111,118,101])=false) (e3:(nm.toList==[109,97,120,105,109,117,109,66,101,108,111,119])=false) (e4:(nm.toList==[115,111,114,116,66,121,84,111,116,97,108])=true) :
  Calls Tryz.prog 14 #[.string nm,aggSr s A c] w (RetVl (aggV 2 s.vals) w):=by
 unfold aggSr
 go_enter Tryz.func14,Tryz.ntmps14
 go_wp2_with fail
 refine (ragg_of_any 2 A c s.vals _ hl ?hr).mono ?_
 case hr=>exact hr.gr gq
 rintro e w1 ⟨rfl,hg⟩
 have z1:=hg.size
 simp at z1
 have z0:w.heap.size<w1.heap.size:=by omega
 have z2:w.heap.size+1<w1.heap.size:=by omega
 obtain ⟨hc,hf⟩:=hg.cells
 have q0:w1.cell? ⟨w.heap.size+1,0,none⟩=some (.bool false):=by go_simp
 have q1:w1.cell? ⟨w.heap.size+1,1,none⟩=some (.int .i64 0):=by go_simp
 have f0:w1.frozen? ⟨w.heap.size+1,0,none⟩=false:=by go_simp
 have f1:w1.frozen? ⟨w.heap.size+1,1,none⟩=false:=by go_simp
 have gw:Gr w w1:=gq
 clear hc hf hg
 go_wp2
 exact bodyPost_ret (v:= .agg #[.bool (aggV 2 s.vals).ok, .int .i64 (aggV 2 s.vals).n]) (by simp[results,Tryz.results14,go_sem, *]) rfl ⟨rfl,gq⟩
theorem rfof_5 (nm:ByteArray) (s:Sr) (A:Option Addr) (c:Nat) (w:World) (hl:s.vals.length≤1000000) (hr:Rv w A s.vals) (e0:(nm.toList==[115,111,114,116,66,121,77,97,120,105,109,97])=false) (e1:(nm.toList==[104,105,103,104,101,115,116,77,97,120])=false) (e2:(nm.toList==[109,97,120,105,109,117,109,65,98,111,118,101])=false) (e3:(nm.toList==[109,97,120,105,109,117,109,66,101,108,111,119])=false) (e4:(nm.toList==[115,111,114,116,66,121,84,111,116,97,108])=false) (e5:(nm.toList==[115,111,114,116,66,121,77,105,110,105,109,97])=true) :
  Calls Tryz.prog 14 #[.string nm,aggSr s A c] w (RetVl (aggV 5 s.vals) w):=by
 unfold aggSr
 go_enter Tryz.func14,Tryz.ntmps14
 go_wp2_with fail
 refine (ragg_of_any 5 A c s.vals _ hl ?hr).mono ?_
 case hr=>exact hr.gr gq
 rintro e w1 ⟨rfl,hg⟩
 have z1:=hg.size
 simp at z1
 have z0:w.heap.size<w1.heap.size:=by omega
 have z2:w.heap.size+1<w1.heap.size:=by omega
 obtain ⟨hc,hf⟩:=hg.cells
 have q0:w1.cell? ⟨w.heap.size+1,0,none⟩=some (.bool false):=by go_simp
 have q1:w1.cell? ⟨w.heap.size+1,1,none⟩=some (.int .i64 0):=by go_simp
 have f0:w1.frozen? ⟨w.heap.size+1,0,none⟩=false:=by go_simp
 have f1:w1.frozen? ⟨w.heap.size+1,1,none⟩=false:=by go_simp
 have gw:Gr w w1:=gq
 clear hc hf hg
 go_wp2
 exact bodyPost_ret (v:= .agg #[.bool (aggV 5 s.vals).ok, .int .i64 (aggV 5 s.vals).n]) (by simp[results,Tryz.results14,go_sem, *]) rfl ⟨rfl,gq⟩
theorem rfof_6 (nm:ByteArray) (s:Sr) (A:Option Addr) (c:Nat) (w:World) (hl:s.vals.length≤1000000) (hr:Rv w A s.vals) (e0:(nm.toList==[115,111,114,116,66,121,77,97,120,105,109,97])=false) (e1:(nm.toList==[104,105,103,104,101,115,116,77,97,120])=false) (e2:(nm.toList==[109,97,120,105,109,117,109,65,98,111,118,101])=false) (e3:(nm.toList==[109,97,120,105,109,117,109,66,101,108,111,119])=false) (e4:(nm.toList==[115,111,114,116,66,121,84,111,116,97,108])=false) (e5:(nm.toList==[115,111,114,116,66,121,77,105,110,105,109,97])=false) (e6:(nm.toList==[109,105,110,105,109,117,109,65,98,111,118,101])=true) :
  Calls Tryz.prog 14 #[.string nm,aggSr s A c] w (RetVl (aggV 5 s.vals) w):=by
 unfold aggSr
 go_enter Tryz.func14,Tryz.ntmps14
 go_wp2_with fail
 refine (ragg_of_any 5 A c s.vals _ hl ?hr).mono ?_
 case hr=>exact hr.gr gq
 rintro e w1 ⟨rfl,hg⟩
 have z1:=hg.size
 simp at z1
 have z0:w.heap.size<w1.heap.size:=by omega
 have z2:w.heap.size+1<w1.heap.size:=by omega
 obtain ⟨hc,hf⟩:=hg.cells
 have q0:w1.cell? ⟨w.heap.size+1,0,none⟩=some (.bool false):=by go_simp
 have q1:w1.cell? ⟨w.heap.size+1,1,none⟩=some (.int .i64 0):=by go_simp
 have f0:w1.frozen? ⟨w.heap.size+1,0,none⟩=false:=by go_simp
 have f1:w1.frozen? ⟨w.heap.size+1,1,none⟩=false:=by go_simp
 have gw:Gr w w1:=gq
 clear hc hf hg
 go_wp2
 exact bodyPost_ret (v:= .agg #[.bool (aggV 5 s.vals).ok, .int .i64 (aggV 5 s.vals).n]) (by simp[results,Tryz.results14,go_sem, *]) rfl ⟨rfl,gq⟩
theorem rfof_7 (nm:ByteArray) (s:Sr) (A:Option Addr) (c:Nat) (w:World) (hl:s.vals.length≤1000000) (hr:Rv w A s.vals) (e0:(nm.toList==[115,111,114,116,66,121,77,97,120,105,109,97])=false) (e1:(nm.toList==[104,105,103,104,101,115,116,77,97,120])=false) (e2:(nm.toList==[109,97,120,105,109,117,109,65,98,111,118,101])=false) (e3:(nm.toList==[109,97,120,105,109,117,109,66,101,108,111,119])=false) (e4:(nm.toList==[115,111,114,116,66,121,84,111,116,97,108])=false) (e5:(nm.toList==[115,111,114,116,66,121,77,105,110,105,109,97])=false) (e6:(nm.toList==[109,105,110,105,109,117,109,65,98,111,118,101])=false) (e7:(nm.toList==[109,105,110,105,109,117,109,66,101,108,111,119])=true) :
  Calls Tryz.prog 14 #[.string nm,aggSr s A c] w (RetVl (aggV 5 s.vals) w):=by
 unfold aggSr
 go_enter Tryz.func14,Tryz.ntmps14
 go_wp2_with fail
 refine (ragg_of_any 5 A c s.vals _ hl ?hr).mono ?_
 case hr=>exact hr.gr gq
 rintro e w1 ⟨rfl,hg⟩
 have z1:=hg.size
 simp at z1
 have z0:w.heap.size<w1.heap.size:=by omega
 have z2:w.heap.size+1<w1.heap.size:=by omega
 obtain ⟨hc,hf⟩:=hg.cells
 have q0:w1.cell? ⟨w.heap.size+1,0,none⟩=some (.bool false):=by go_simp
 have q1:w1.cell? ⟨w.heap.size+1,1,none⟩=some (.int .i64 0):=by go_simp
 have f0:w1.frozen? ⟨w.heap.size+1,0,none⟩=false:=by go_simp
 have f1:w1.frozen? ⟨w.heap.size+1,1,none⟩=false:=by go_simp
 have gw:Gr w w1:=gq
 clear hc hf hg
 go_wp2
 exact bodyPost_ret (v:= .agg #[.bool (aggV 5 s.vals).ok, .int .i64 (aggV 5 s.vals).n]) (by simp[results,Tryz.results14,go_sem, *]) rfl ⟨rfl,gq⟩
theorem rfof_8 (nm:ByteArray) (s:Sr) (A:Option Addr) (c:Nat) (w:World) (hl:s.vals.length≤1000000) (hr:Rv w A s.vals) (e0:(nm.toList==[115,111,114,116,66,121,77,97,120,105,109,97])=false) (e1:(nm.toList==[104,105,103,104,101,115,116,77,97,120])=false) (e2:(nm.toList==[109,97,120,105,109,117,109,65,98,111,118,101])=false) (e3:(nm.toList==[109,97,120,105,109,117,109,66,101,108,111,119])=false) (e4:(nm.toList==[115,111,114,116,66,121,84,111,116,97,108])=false) (e5:(nm.toList==[115,111,114,116,66,121,77,105,110,105,109,97])=false) (e6:(nm.toList==[109,105,110,105,109,117,109,65,98,111,118,101])=false) (e7:(nm.toList==[109,105,110,105,109,117,109,66,101,108,111,119])=false) (e8:(nm.toList==[104,105,103,104,101,115,116,65,118,101,114,97,103,101])=true) :
  Calls Tryz.prog 14 #[.string nm,aggSr s A c] w (RetVl (aggV 1 s.vals) w):=by
 unfold aggSr
 go_enter Tryz.func14,Tryz.ntmps14
 go_wp2_with fail
 refine (ragg_of_any 1 A c s.vals _ hl ?hr).mono ?_
 case hr=>exact hr.gr gq
 rintro e w1 ⟨rfl,hg⟩
 have z1:=hg.size
 simp at z1
 have z0:w.heap.size<w1.heap.size:=by omega
 have z2:w.heap.size+1<w1.heap.size:=by omega
 obtain ⟨hc,hf⟩:=hg.cells
 have q0:w1.cell? ⟨w.heap.size+1,0,none⟩=some (.bool false):=by go_simp
 have q1:w1.cell? ⟨w.heap.size+1,1,none⟩=some (.int .i64 0):=by go_simp
 have f0:w1.frozen? ⟨w.heap.size+1,0,none⟩=false:=by go_simp
 have f1:w1.frozen? ⟨w.heap.size+1,1,none⟩=false:=by go_simp
 have gw:Gr w w1:=gq
 clear hc hf hg
 go_wp2
 exact bodyPost_ret (v:= .agg #[.bool (aggV 1 s.vals).ok, .int .i64 (aggV 1 s.vals).n]) (by simp[results,Tryz.results14,go_sem, *]) rfl ⟨rfl,gq⟩
theorem rfof_9 (nm:ByteArray) (s:Sr) (A:Option Addr) (c:Nat) (w:World) (hl:s.vals.length≤1000000) (hr:Rv w A s.vals) (e0:(nm.toList==[115,111,114,116,66,121,77,97,120,105,109,97])=false) (e1:(nm.toList==[104,105,103,104,101,115,116,77,97,120])=false) (e2:(nm.toList==[109,97,120,105,109,117,109,65,98,111,118,101])=false) (e3:(nm.toList==[109,97,120,105,109,117,109,66,101,108,111,119])=false) (e4:(nm.toList==[115,111,114,116,66,121,84,111,116,97,108])=false) (e5:(nm.toList==[115,111,114,116,66,121,77,105,110,105,109,97])=false) (e6:(nm.toList==[109,105,110,105,109,117,109,65,98,111,118,101])=false) (e7:(nm.toList==[109,105,110,105,109,117,109,66,101,108,111,119])=false) (e8:(nm.toList==[104,105,103,104,101,115,116,65,118,101,114,97,103,101])=false) (e9:(nm.toList==[108,111,119,101,115,116,65,118,101,114,97,103,101])=true) :
  Calls Tryz.prog 14 #[.string nm,aggSr s A c] w (RetVl (aggV 1 s.vals) w):=by
 unfold aggSr
 go_enter Tryz.func14,Tryz.ntmps14
 go_wp2_with fail
 refine (ragg_of_any 1 A c s.vals _ hl ?hr).mono ?_
 case hr=>exact hr.gr gq
 rintro e w1 ⟨rfl,hg⟩
 have z1:=hg.size
 simp at z1
 have z0:w.heap.size<w1.heap.size:=by omega
 have z2:w.heap.size+1<w1.heap.size:=by omega
 obtain ⟨hc,hf⟩:=hg.cells
 have q0:w1.cell? ⟨w.heap.size+1,0,none⟩=some (.bool false):=by go_simp
 have q1:w1.cell? ⟨w.heap.size+1,1,none⟩=some (.int .i64 0):=by go_simp
 have f0:w1.frozen? ⟨w.heap.size+1,0,none⟩=false:=by go_simp
 have f1:w1.frozen? ⟨w.heap.size+1,1,none⟩=false:=by go_simp
 have gw:Gr w w1:=gq
 clear hc hf hg
 go_wp2
 exact bodyPost_ret (v:= .agg #[.bool (aggV 1 s.vals).ok, .int .i64 (aggV 1 s.vals).n]) (by simp[results,Tryz.results14,go_sem, *]) rfl ⟨rfl,gq⟩
theorem rfof_10 (nm:ByteArray) (s:Sr) (A:Option Addr) (c:Nat) (w:World) (hl:s.vals.length≤1000000) (hr:Rv w A s.vals) (e0:(nm.toList==[115,111,114,116,66,121,77,97,120,105,109,97])=false) (e1:(nm.toList==[104,105,103,104,101,115,116,77,97,120])=false) (e2:(nm.toList==[109,97,120,105,109,117,109,65,98,111,118,101])=false) (e3:(nm.toList==[109,97,120,105,109,117,109,66,101,108,111,119])=false) (e4:(nm.toList==[115,111,114,116,66,121,84,111,116,97,108])=false) (e5:(nm.toList==[115,111,114,116,66,121,77,105,110,105,109,97])=false) (e6:(nm.toList==[109,105,110,105,109,117,109,65,98,111,118,101])=false) (e7:(nm.toList==[109,105,110,105,109,117,109,66,101,108,111,119])=false) (e8:(nm.toList==[104,105,103,104,101,115,116,65,118,101,114,97,103,101])=false) (e9:(nm.toList==[108,111,119,101,115,116,65,118,101,114,97,103,101])=false) (e10:(nm.toList==[97,118,101,114,97,103,101,65,98,111,118,101])=true) :
  Calls Tryz.prog 14 #[.string nm,aggSr s A c] w (RetVl (aggV 1 s.vals) w):=by
 unfold aggSr
 go_enter Tryz.func14,Tryz.ntmps14
 go_wp2_with fail
 refine (ragg_of_any 1 A c s.vals _ hl ?hr).mono ?_
 case hr=>exact hr.gr gq
 rintro e w1 ⟨rfl,hg⟩
 have z1:=hg.size
 simp at z1
 have z0:w.heap.size<w1.heap.size:=by omega
 have z2:w.heap.size+1<w1.heap.size:=by omega
 obtain ⟨hc,hf⟩:=hg.cells
 have q0:w1.cell? ⟨w.heap.size+1,0,none⟩=some (.bool false):=by go_simp
 have q1:w1.cell? ⟨w.heap.size+1,1,none⟩=some (.int .i64 0):=by go_simp
 have f0:w1.frozen? ⟨w.heap.size+1,0,none⟩=false:=by go_simp
 have f1:w1.frozen? ⟨w.heap.size+1,1,none⟩=false:=by go_simp
 have gw:Gr w w1:=gq
 clear hc hf hg
 go_wp2
 exact bodyPost_ret (v:= .agg #[.bool (aggV 1 s.vals).ok, .int .i64 (aggV 1 s.vals).n]) (by simp[results,Tryz.results14,go_sem, *]) rfl ⟨rfl,gq⟩
theorem rfof_11 (nm:ByteArray) (s:Sr) (A:Option Addr) (c:Nat) (w:World) (hl:s.vals.length≤1000000) (hr:Rv w A s.vals) (e0:(nm.toList==[115,111,114,116,66,121,77,97,120,105,109,97])=false) (e1:(nm.toList==[104,105,103,104,101,115,116,77,97,120])=false) (e2:(nm.toList==[109,97,120,105,109,117,109,65,98,111,118,101])=false) (e3:(nm.toList==[109,97,120,105,109,117,109,66,101,108,111,119])=false) (e4:(nm.toList==[115,111,114,116,66,121,84,111,116,97,108])=false) (e5:(nm.toList==[115,111,114,116,66,121,77,105,110,105,109,97])=false) (e6:(nm.toList==[109,105,110,105,109,117,109,65,98,111,118,101])=false) (e7:(nm.toList==[109,105,110,105,109,117,109,66,101,108,111,119])=false) (e8:(nm.toList==[104,105,103,104,101,115,116,65,118,101,114,97,103,101])=false) (e9:(nm.toList==[108,111,119,101,115,116,65,118,101,114,97,103,101])=false) (e10:(nm.toList==[97,118,101,114,97,103,101,65,98,111,118,101])=false) (e11:(nm.toList==[97,118,101,114,97,103,101,66,101,108,111,119])=true) :
  Calls Tryz.prog 14 #[.string nm,aggSr s A c] w (RetVl (aggV 1 s.vals) w):=by
 unfold aggSr
 go_enter Tryz.func14,Tryz.ntmps14
 go_wp2_with fail
 refine (ragg_of_any 1 A c s.vals _ hl ?hr).mono ?_
 case hr=>exact hr.gr gq
 rintro e w1 ⟨rfl,hg⟩
 have z1:=hg.size
 simp at z1
 have z0:w.heap.size<w1.heap.size:=by omega
 have z2:w.heap.size+1<w1.heap.size:=by omega
 obtain ⟨hc,hf⟩:=hg.cells
 have q0:w1.cell? ⟨w.heap.size+1,0,none⟩=some (.bool false):=by go_simp
 have q1:w1.cell? ⟨w.heap.size+1,1,none⟩=some (.int .i64 0):=by go_simp
 have f0:w1.frozen? ⟨w.heap.size+1,0,none⟩=false:=by go_simp
 have f1:w1.frozen? ⟨w.heap.size+1,1,none⟩=false:=by go_simp
 have gw:Gr w w1:=gq
 clear hc hf hg
 go_wp2
 exact bodyPost_ret (v:= .agg #[.bool (aggV 1 s.vals).ok, .int .i64 (aggV 1 s.vals).n]) (by simp[results,Tryz.results14,go_sem, *]) rfl ⟨rfl,gq⟩
theorem rfof_12 (nm:ByteArray) (s:Sr) (A:Option Addr) (c:Nat) (w:World) (hl:s.vals.length≤1000000) (hr:Rv w A s.vals) (e0:(nm.toList==[115,111,114,116,66,121,77,97,120,105,109,97])=false) (e1:(nm.toList==[104,105,103,104,101,115,116,77,97,120])=false) (e2:(nm.toList==[109,97,120,105,109,117,109,65,98,111,118,101])=false) (e3:(nm.toList==[109,97,120,105,109,117,109,66,101,108,111,119])=false) (e4:(nm.toList==[115,111,114,116,66,121,84,111,116,97,108])=false) (e5:(nm.toList==[115,111,114,116,66,121,77,105,110,105,109,97])=false) (e6:(nm.toList==[109,105,110,105,109,117,109,65,98,111,118,101])=false) (e7:(nm.toList==[109,105,110,105,109,117,109,66,101,108,111,119])=false) (e8:(nm.toList==[104,105,103,104,101,115,116,65,118,101,114,97,103,101])=false) (e9:(nm.toList==[108,111,119,101,115,116,65,118,101,114,97,103,101])=false) (e10:(nm.toList==[97,118,101,114,97,103,101,65,98,111,118,101])=false) (e11:(nm.toList==[97,118,101,114,97,103,101,66,101,108,111,119])=false) (e12:(nm.toList==[104,105,103,104,101,115,116,67,117,114,114,101,110,116])=true) :
  Calls Tryz.prog 14 #[.string nm,aggSr s A c] w (RetVl (aggV 3 s.vals) w):=by
 unfold aggSr
 go_enter Tryz.func14,Tryz.ntmps14
 go_wp2_with fail
 refine (ragg_of_any 3 A c s.vals _ hl ?hr).mono ?_
 case hr=>exact hr.gr gq
 rintro e w1 ⟨rfl,hg⟩
 have z1:=hg.size
 simp at z1
 have z0:w.heap.size<w1.heap.size:=by omega
 have z2:w.heap.size+1<w1.heap.size:=by omega
 obtain ⟨hc,hf⟩:=hg.cells
 have q0:w1.cell? ⟨w.heap.size+1,0,none⟩=some (.bool false):=by go_simp
 have q1:w1.cell? ⟨w.heap.size+1,1,none⟩=some (.int .i64 0):=by go_simp
 have f0:w1.frozen? ⟨w.heap.size+1,0,none⟩=false:=by go_simp
 have f1:w1.frozen? ⟨w.heap.size+1,1,none⟩=false:=by go_simp
 have gw:Gr w w1:=gq
 clear hc hf hg
 go_wp2
 exact bodyPost_ret (v:= .agg #[.bool (aggV 3 s.vals).ok, .int .i64 (aggV 3 s.vals).n]) (by simp[results,Tryz.results14,go_sem, *]) rfl ⟨rfl,gq⟩
theorem rfof_13 (nm:ByteArray) (s:Sr) (A:Option Addr) (c:Nat) (w:World) (hl:s.vals.length≤1000000) (hr:Rv w A s.vals) (e0:(nm.toList==[115,111,114,116,66,121,77,97,120,105,109,97])=false) (e1:(nm.toList==[104,105,103,104,101,115,116,77,97,120])=false) (e2:(nm.toList==[109,97,120,105,109,117,109,65,98,111,118,101])=false) (e3:(nm.toList==[109,97,120,105,109,117,109,66,101,108,111,119])=false) (e4:(nm.toList==[115,111,114,116,66,121,84,111,116,97,108])=false) (e5:(nm.toList==[115,111,114,116,66,121,77,105,110,105,109,97])=false) (e6:(nm.toList==[109,105,110,105,109,117,109,65,98,111,118,101])=false) (e7:(nm.toList==[109,105,110,105,109,117,109,66,101,108,111,119])=false) (e8:(nm.toList==[104,105,103,104,101,115,116,65,118,101,114,97,103,101])=false) (e9:(nm.toList==[108,111,119,101,115,116,65,118,101,114,97,103,101])=false) (e10:(nm.toList==[97,118,101,114,97,103,101,65,98,111,118,101])=false) (e11:(nm.toList==[97,118,101,114,97,103,101,66,101,108,111,119])=false) (e12:(nm.toList==[104,105,103,104,101,115,116,67,117,114,114,101,110,116])=false) (e13:(nm.toList==[108,111,119,101,115,116,67,117,114,114,101,110,116])=true) :
  Calls Tryz.prog 14 #[.string nm,aggSr s A c] w (RetVl (aggV 3 s.vals) w):=by
 unfold aggSr
 go_enter Tryz.func14,Tryz.ntmps14
 go_wp2_with fail
 refine (ragg_of_any 3 A c s.vals _ hl ?hr).mono ?_
 case hr=>exact hr.gr gq
 rintro e w1 ⟨rfl,hg⟩
 have z1:=hg.size
 simp at z1
 have z0:w.heap.size<w1.heap.size:=by omega
 have z2:w.heap.size+1<w1.heap.size:=by omega
 obtain ⟨hc,hf⟩:=hg.cells
 have q0:w1.cell? ⟨w.heap.size+1,0,none⟩=some (.bool false):=by go_simp
 have q1:w1.cell? ⟨w.heap.size+1,1,none⟩=some (.int .i64 0):=by go_simp
 have f0:w1.frozen? ⟨w.heap.size+1,0,none⟩=false:=by go_simp
 have f1:w1.frozen? ⟨w.heap.size+1,1,none⟩=false:=by go_simp
 have gw:Gr w w1:=gq
 clear hc hf hg
 go_wp2
 exact bodyPost_ret (v:= .agg #[.bool (aggV 3 s.vals).ok, .int .i64 (aggV 3 s.vals).n]) (by simp[results,Tryz.results14,go_sem, *]) rfl ⟨rfl,gq⟩
theorem rfof_14 (nm:ByteArray) (s:Sr) (A:Option Addr) (c:Nat) (w:World) (hl:s.vals.length≤1000000) (hr:Rv w A s.vals) (e0:(nm.toList==[115,111,114,116,66,121,77,97,120,105,109,97])=false) (e1:(nm.toList==[104,105,103,104,101,115,116,77,97,120])=false) (e2:(nm.toList==[109,97,120,105,109,117,109,65,98,111,118,101])=false) (e3:(nm.toList==[109,97,120,105,109,117,109,66,101,108,111,119])=false) (e4:(nm.toList==[115,111,114,116,66,121,84,111,116,97,108])=false) (e5:(nm.toList==[115,111,114,116,66,121,77,105,110,105,109,97])=false) (e6:(nm.toList==[109,105,110,105,109,117,109,65,98,111,118,101])=false) (e7:(nm.toList==[109,105,110,105,109,117,109,66,101,108,111,119])=false) (e8:(nm.toList==[104,105,103,104,101,115,116,65,118,101,114,97,103,101])=false) (e9:(nm.toList==[108,111,119,101,115,116,65,118,101,114,97,103,101])=false) (e10:(nm.toList==[97,118,101,114,97,103,101,65,98,111,118,101])=false) (e11:(nm.toList==[97,118,101,114,97,103,101,66,101,108,111,119])=false) (e12:(nm.toList==[104,105,103,104,101,115,116,67,117,114,114,101,110,116])=false) (e13:(nm.toList==[108,111,119,101,115,116,67,117,114,114,101,110,116])=false) (e14:(nm.toList==[99,117,114,114,101,110,116,65,98,111,118,101])=true) :
  Calls Tryz.prog 14 #[.string nm,aggSr s A c] w (RetVl (aggV 3 s.vals) w):=by
 unfold aggSr
 go_enter Tryz.func14,Tryz.ntmps14
 go_wp2_with fail
 refine (ragg_of_any 3 A c s.vals _ hl ?hr).mono ?_
 case hr=>exact hr.gr gq
 rintro e w1 ⟨rfl,hg⟩
 have z1:=hg.size
 simp at z1
 have z0:w.heap.size<w1.heap.size:=by omega
 have z2:w.heap.size+1<w1.heap.size:=by omega
 obtain ⟨hc,hf⟩:=hg.cells
 have q0:w1.cell? ⟨w.heap.size+1,0,none⟩=some (.bool false):=by go_simp
 have q1:w1.cell? ⟨w.heap.size+1,1,none⟩=some (.int .i64 0):=by go_simp
 have f0:w1.frozen? ⟨w.heap.size+1,0,none⟩=false:=by go_simp
 have f1:w1.frozen? ⟨w.heap.size+1,1,none⟩=false:=by go_simp
 have gw:Gr w w1:=gq
 clear hc hf hg
 go_wp2
 exact bodyPost_ret (v:= .agg #[.bool (aggV 3 s.vals).ok, .int .i64 (aggV 3 s.vals).n]) (by simp[results,Tryz.results14,go_sem, *]) rfl ⟨rfl,gq⟩
theorem rfof_15 (nm:ByteArray) (s:Sr) (A:Option Addr) (c:Nat) (w:World) (hl:s.vals.length≤1000000) (hr:Rv w A s.vals) (e0:(nm.toList==[115,111,114,116,66,121,77,97,120,105,109,97])=false) (e1:(nm.toList==[104,105,103,104,101,115,116,77,97,120])=false) (e2:(nm.toList==[109,97,120,105,109,117,109,65,98,111,118,101])=false) (e3:(nm.toList==[109,97,120,105,109,117,109,66,101,108,111,119])=false) (e4:(nm.toList==[115,111,114,116,66,121,84,111,116,97,108])=false) (e5:(nm.toList==[115,111,114,116,66,121,77,105,110,105,109,97])=false) (e6:(nm.toList==[109,105,110,105,109,117,109,65,98,111,118,101])=false) (e7:(nm.toList==[109,105,110,105,109,117,109,66,101,108,111,119])=false) (e8:(nm.toList==[104,105,103,104,101,115,116,65,118,101,114,97,103,101])=false) (e9:(nm.toList==[108,111,119,101,115,116,65,118,101,114,97,103,101])=false) (e10:(nm.toList==[97,118,101,114,97,103,101,65,98,111,118,101])=false) (e11:(nm.toList==[97,118,101,114,97,103,101,66,101,108,111,119])=false) (e12:(nm.toList==[104,105,103,104,101,115,116,67,117,114,114,101,110,116])=false) (e13:(nm.toList==[108,111,119,101,115,116,67,117,114,114,101,110,116])=false) (e14:(nm.toList==[99,117,114,114,101,110,116,65,98,111,118,101])=false) (e15:(nm.toList==[99,117,114,114,101,110,116,66,101,108,111,119])=true) :
  Calls Tryz.prog 14 #[.string nm,aggSr s A c] w (RetVl (aggV 3 s.vals) w):=by
 unfold aggSr
 go_enter Tryz.func14,Tryz.ntmps14
 go_wp2_with fail
 refine (ragg_of_any 3 A c s.vals _ hl ?hr).mono ?_
 case hr=>exact hr.gr gq
 rintro e w1 ⟨rfl,hg⟩
 have z1:=hg.size
 simp at z1
 have z0:w.heap.size<w1.heap.size:=by omega
 have z2:w.heap.size+1<w1.heap.size:=by omega
 obtain ⟨hc,hf⟩:=hg.cells
 have q0:w1.cell? ⟨w.heap.size+1,0,none⟩=some (.bool false):=by go_simp
 have q1:w1.cell? ⟨w.heap.size+1,1,none⟩=some (.int .i64 0):=by go_simp
 have f0:w1.frozen? ⟨w.heap.size+1,0,none⟩=false:=by go_simp
 have f1:w1.frozen? ⟨w.heap.size+1,1,none⟩=false:=by go_simp
 have gw:Gr w w1:=gq
 clear hc hf hg
 go_wp2
 exact bodyPost_ret (v:= .agg #[.bool (aggV 3 s.vals).ok, .int .i64 (aggV 3 s.vals).n]) (by simp[results,Tryz.results14,go_sem, *]) rfl ⟨rfl,gq⟩
theorem rfof_16 (nm:ByteArray) (s:Sr) (A:Option Addr) (c:Nat) (w:World) (hl:s.vals.length≤1000000) (hr:Rv w A s.vals) (e0:(nm.toList==[115,111,114,116,66,121,77,97,120,105,109,97])=false) (e1:(nm.toList==[104,105,103,104,101,115,116,77,97,120])=false) (e2:(nm.toList==[109,97,120,105,109,117,109,65,98,111,118,101])=false) (e3:(nm.toList==[109,97,120,105,109,117,109,66,101,108,111,119])=false) (e4:(nm.toList==[115,111,114,116,66,121,84,111,116,97,108])=false) (e5:(nm.toList==[115,111,114,116,66,121,77,105,110,105,109,97])=false) (e6:(nm.toList==[109,105,110,105,109,117,109,65,98,111,118,101])=false) (e7:(nm.toList==[109,105,110,105,109,117,109,66,101,108,111,119])=false) (e8:(nm.toList==[104,105,103,104,101,115,116,65,118,101,114,97,103,101])=false) (e9:(nm.toList==[108,111,119,101,115,116,65,118,101,114,97,103,101])=false) (e10:(nm.toList==[97,118,101,114,97,103,101,65,98,111,118,101])=false) (e11:(nm.toList==[97,118,101,114,97,103,101,66,101,108,111,119])=false) (e12:(nm.toList==[104,105,103,104,101,115,116,67,117,114,114,101,110,116])=false) (e13:(nm.toList==[108,111,119,101,115,116,67,117,114,114,101,110,116])=false) (e14:(nm.toList==[99,117,114,114,101,110,116,65,98,111,118,101])=false) (e15:(nm.toList==[99,117,114,114,101,110,116,66,101,108,111,119])=false) (e16:(nm.toList==[109,111,115,116,68,101,118,105,97,110,116])=true) :
  Calls Tryz.prog 14 #[.string nm,aggSr s A c] w (RetVl (devV s.vals) w):=by
 unfold aggSr
 go_enter Tryz.func14,Tryz.ntmps14
 go_wp2_with fail
 refine (rdev_any A c s.vals _ hl ?hr).mono ?_
 case hr=>exact hr.gr gq
 rintro e w1 ⟨rfl,hg⟩
 have z1:=hg.size
 simp at z1
 have z0:w.heap.size<w1.heap.size:=by omega
 have z2:w.heap.size+1<w1.heap.size:=by omega
 obtain ⟨hc,hf⟩:=hg.cells
 have q0:w1.cell? ⟨w.heap.size+1,0,none⟩=some (.bool false):=by go_simp
 have q1:w1.cell? ⟨w.heap.size+1,1,none⟩=some (.int .i64 0):=by go_simp
 have f0:w1.frozen? ⟨w.heap.size+1,0,none⟩=false:=by go_simp
 have f1:w1.frozen? ⟨w.heap.size+1,1,none⟩=false:=by go_simp
 have gw:Gr w w1:=gq
 clear hc hf hg
 go_wp2
 exact bodyPost_ret (v:= .agg #[.bool (devV s.vals).ok, .int .i64 (devV s.vals).n]) (by simp[results,Tryz.results14,go_sem, *]) rfl ⟨rfl,gq⟩
theorem rfof_no (nm:ByteArray) (s:Sr) (A:Option Addr) (c:Nat) (w:World) (e0:(nm.toList==[115,111,114,116,66,121,77,97,120,105,109,97])=false) (e1:(nm.toList==[104,105,103,104,101,115,116,77,97,120])=false) (e2:(nm.toList==[109,97,120,105,109,117,109,65,98,111,118,101])=false) (e3:(nm.toList==[109,97,120,105,109,117,109,66,101,108,111,119])=false) (e4:(nm.toList==[115,111,114,116,66,121,84,111,116,97,108])=false) (e5:(nm.toList==[115,111,114,116,66,121,77,105,110,105,109,97])=false) (e6:(nm.toList==[109,105,110,105,109,117,109,65,98,111,118,101])=false) (e7:(nm.toList==[109,105,110,105,109,117,109,66,101,108,111,119])=false) (e8:(nm.toList==[104,105,103,104,101,115,116,65,118,101,114,97,103,101])=false) (e9:(nm.toList==[108,111,119,101,115,116,65,118,101,114,97,103,101])=false) (e10:(nm.toList==[97,118,101,114,97,103,101,65,98,111,118,101])=false) (e11:(nm.toList==[97,118,101,114,97,103,101,66,101,108,111,119])=false) (e12:(nm.toList==[104,105,103,104,101,115,116,67,117,114,114,101,110,116])=false) (e13:(nm.toList==[108,111,119,101,115,116,67,117,114,114,101,110,116])=false) (e14:(nm.toList==[99,117,114,114,101,110,116,65,98,111,118,101])=false) (e15:(nm.toList==[99,117,114,114,101,110,116,66,101,108,111,119])=false) (e16:(nm.toList==[109,111,115,116,68,101,118,105,97,110,116])=false) :
  Calls Tryz.prog 14 #[.string nm,aggSr s A c] w (RetVl ⟨false,0⟩ w):=by
 unfold aggSr
 go_enter Tryz.func14,Tryz.ntmps14
 go_wp2
 exact bodyPost_ret (v:= .agg #[.bool false, .int .i64 0]) (by simp[results,Tryz.results14,go_sem, *]) rfl ⟨rfl,gq⟩
theorem rfof_any (nm:ByteArray) (s:Sr) (A:Option Addr) (c:Nat) (w:World) (hl:s.vals.length≤1000000) (hr:Rv w A s.vals) :
  Calls Tryz.prog 14 #[.string nm,aggSr s A c] w (RetVl (ofR (rowF nm).by_ s.vals) w):=by
 rcases name_cases nm with ⟨hn,hne⟩|⟨r,hr0,hnm,hn⟩
 ·
  have e:ofR (rowF nm).by_ s.vals=⟨false,0⟩:=by unfold rowF;rw[hn];exact aggV_none (.inl (by decide)) _
  rw[e]
  exact rfof_no nm s A c w (nm_not hne R18_mem rfl) (nm_not hne R8_mem rfl) (nm_not hne R12_mem rfl) (nm_not hne R13_mem rfl) (nm_not hne R21_mem rfl) (nm_not hne R19_mem rfl) (nm_not hne R14_mem rfl) (nm_not hne R15_mem rfl) (nm_not hne R6_mem rfl) (nm_not hne R10_mem rfl) (nm_not hne R0_mem rfl) (nm_not hne R1_mem rfl) (nm_not hne R7_mem rfl) (nm_not hne R11_mem rfl) (nm_not hne R2_mem rfl) (nm_not hne R3_mem rfl) (nm_not hne R16_mem rfl)
 ·
  have e:rowF nm=r:=by unfold rowF;rw[hn];rfl
  rw[e]
  clear e hn
  revert hnm
  refine rows_split (P:=fun r=>nm=r.nm→Calls Tryz.prog 14 #[.string nm,aggSr s A c] w (RetVl (ofR r.by_ s.vals) w)) ?_ ?_ ?_ ?_ ?_ ?_ ?_ ?_ ?_ ?_ ?_ ?_ ?_ ?_ ?_ ?_ ?_ ?_ ?_ ?_ ?_ ?_ r hr0
  ·
   intro hnm
   exact rfof_10 nm s A c w hl hr (nm_is hnm rfl) (nm_is hnm rfl) (nm_is hnm rfl) (nm_is hnm rfl) (nm_is hnm rfl) (nm_is hnm rfl) (nm_is hnm rfl) (nm_is hnm rfl) (nm_is hnm rfl) (nm_is hnm rfl) (nm_is hnm rfl)
  ·
   intro hnm
   exact rfof_11 nm s A c w hl hr (nm_is hnm rfl) (nm_is hnm rfl) (nm_is hnm rfl) (nm_is hnm rfl) (nm_is hnm rfl) (nm_is hnm rfl) (nm_is hnm rfl) (nm_is hnm rfl) (nm_is hnm rfl) (nm_is hnm rfl) (nm_is hnm rfl) (nm_is hnm rfl)
  ·
   intro hnm
   exact rfof_14 nm s A c w hl hr (nm_is hnm rfl) (nm_is hnm rfl) (nm_is hnm rfl) (nm_is hnm rfl) (nm_is hnm rfl) (nm_is hnm rfl) (nm_is hnm rfl) (nm_is hnm rfl) (nm_is hnm rfl) (nm_is hnm rfl) (nm_is hnm rfl) (nm_is hnm rfl) (nm_is hnm rfl) (nm_is hnm rfl) (nm_is hnm rfl)
  ·
   intro hnm
   exact rfof_15 nm s A c w hl hr (nm_is hnm rfl) (nm_is hnm rfl) (nm_is hnm rfl) (nm_is hnm rfl) (nm_is hnm rfl) (nm_is hnm rfl) (nm_is hnm rfl) (nm_is hnm rfl) (nm_is hnm rfl) (nm_is hnm rfl) (nm_is hnm rfl) (nm_is hnm rfl) (nm_is hnm rfl) (nm_is hnm rfl) (nm_is hnm rfl) (nm_is hnm rfl)
  ·
   intro hnm
   rw[show ofR R4.by_ s.vals=⟨false,0⟩ from aggV_none (.inl (by decide)) _]
   exact rfof_no nm s A c w (nm_is hnm rfl) (nm_is hnm rfl) (nm_is hnm rfl) (nm_is hnm rfl) (nm_is hnm rfl) (nm_is hnm rfl) (nm_is hnm rfl) (nm_is hnm rfl) (nm_is hnm rfl) (nm_is hnm rfl) (nm_is hnm rfl) (nm_is hnm rfl) (nm_is hnm rfl) (nm_is hnm rfl) (nm_is hnm rfl) (nm_is hnm rfl) (nm_is hnm rfl)
  ·
   intro hnm
   rw[show ofR R5.by_ s.vals=⟨false,0⟩ from aggV_none (.inl (by decide)) _]
   exact rfof_no nm s A c w (nm_is hnm rfl) (nm_is hnm rfl) (nm_is hnm rfl) (nm_is hnm rfl) (nm_is hnm rfl) (nm_is hnm rfl) (nm_is hnm rfl) (nm_is hnm rfl) (nm_is hnm rfl) (nm_is hnm rfl) (nm_is hnm rfl) (nm_is hnm rfl) (nm_is hnm rfl) (nm_is hnm rfl) (nm_is hnm rfl) (nm_is hnm rfl) (nm_is hnm rfl)
  ·
   intro hnm
   exact rfof_8 nm s A c w hl hr (nm_is hnm rfl) (nm_is hnm rfl) (nm_is hnm rfl) (nm_is hnm rfl) (nm_is hnm rfl) (nm_is hnm rfl) (nm_is hnm rfl) (nm_is hnm rfl) (nm_is hnm rfl)
  ·
   intro hnm
   exact rfof_12 nm s A c w hl hr (nm_is hnm rfl) (nm_is hnm rfl) (nm_is hnm rfl) (nm_is hnm rfl) (nm_is hnm rfl) (nm_is hnm rfl) (nm_is hnm rfl) (nm_is hnm rfl) (nm_is hnm rfl) (nm_is hnm rfl) (nm_is hnm rfl) (nm_is hnm rfl) (nm_is hnm rfl)
  ·
   intro hnm
   exact rfof_1 nm s A c w hl hr (nm_is hnm rfl) (nm_is hnm rfl)
  ·
   intro hnm
   rw[show ofR R9.by_ s.vals=⟨false,0⟩ from aggV_none (.inl (by decide)) _]
   exact rfof_no nm s A c w (nm_is hnm rfl) (nm_is hnm rfl) (nm_is hnm rfl) (nm_is hnm rfl) (nm_is hnm rfl) (nm_is hnm rfl) (nm_is hnm rfl) (nm_is hnm rfl) (nm_is hnm rfl) (nm_is hnm rfl) (nm_is hnm rfl) (nm_is hnm rfl) (nm_is hnm rfl) (nm_is hnm rfl) (nm_is hnm rfl) (nm_is hnm rfl) (nm_is hnm rfl)
  ·
   intro hnm
   exact rfof_9 nm s A c w hl hr (nm_is hnm rfl) (nm_is hnm rfl) (nm_is hnm rfl) (nm_is hnm rfl) (nm_is hnm rfl) (nm_is hnm rfl) (nm_is hnm rfl) (nm_is hnm rfl) (nm_is hnm rfl) (nm_is hnm rfl)
  ·
   intro hnm
   exact rfof_13 nm s A c w hl hr (nm_is hnm rfl) (nm_is hnm rfl) (nm_is hnm rfl) (nm_is hnm rfl) (nm_is hnm rfl) (nm_is hnm rfl) (nm_is hnm rfl) (nm_is hnm rfl) (nm_is hnm rfl) (nm_is hnm rfl) (nm_is hnm rfl) (nm_is hnm rfl) (nm_is hnm rfl) (nm_is hnm rfl)
  ·
   intro hnm
   exact rfof_2 nm s A c w hl hr (nm_is hnm rfl) (nm_is hnm rfl) (nm_is hnm rfl)
  ·
   intro hnm
   exact rfof_3 nm s A c w hl hr (nm_is hnm rfl) (nm_is hnm rfl) (nm_is hnm rfl) (nm_is hnm rfl)
  ·
   intro hnm
   exact rfof_6 nm s A c w hl hr (nm_is hnm rfl) (nm_is hnm rfl) (nm_is hnm rfl) (nm_is hnm rfl) (nm_is hnm rfl) (nm_is hnm rfl) (nm_is hnm rfl)
  ·
   intro hnm
   exact rfof_7 nm s A c w hl hr (nm_is hnm rfl) (nm_is hnm rfl) (nm_is hnm rfl) (nm_is hnm rfl) (nm_is hnm rfl) (nm_is hnm rfl) (nm_is hnm rfl) (nm_is hnm rfl)
  ·
   intro hnm
   exact rfof_16 nm s A c w hl hr (nm_is hnm rfl) (nm_is hnm rfl) (nm_is hnm rfl) (nm_is hnm rfl) (nm_is hnm rfl) (nm_is hnm rfl) (nm_is hnm rfl) (nm_is hnm rfl) (nm_is hnm rfl) (nm_is hnm rfl) (nm_is hnm rfl) (nm_is hnm rfl) (nm_is hnm rfl) (nm_is hnm rfl) (nm_is hnm rfl) (nm_is hnm rfl) (nm_is hnm rfl)
  ·
   intro hnm
   rw[show ofR R17.by_ s.vals=⟨false,0⟩ from aggV_none (.inl (by decide)) _]
   exact rfof_no nm s A c w (nm_is hnm rfl) (nm_is hnm rfl) (nm_is hnm rfl) (nm_is hnm rfl) (nm_is hnm rfl) (nm_is hnm rfl) (nm_is hnm rfl) (nm_is hnm rfl) (nm_is hnm rfl) (nm_is hnm rfl) (nm_is hnm rfl) (nm_is hnm rfl) (nm_is hnm rfl) (nm_is hnm rfl) (nm_is hnm rfl) (nm_is hnm rfl) (nm_is hnm rfl)
  ·
   intro hnm
   exact rfof_0 nm s A c w hl hr (nm_is hnm rfl)
  ·
   intro hnm
   exact rfof_5 nm s A c w hl hr (nm_is hnm rfl) (nm_is hnm rfl) (nm_is hnm rfl) (nm_is hnm rfl) (nm_is hnm rfl) (nm_is hnm rfl)
  ·
   intro hnm
   rw[show ofR R20.by_ s.vals=⟨false,0⟩ from aggV_none (.inl (by decide)) _]
   exact rfof_no nm s A c w (nm_is hnm rfl) (nm_is hnm rfl) (nm_is hnm rfl) (nm_is hnm rfl) (nm_is hnm rfl) (nm_is hnm rfl) (nm_is hnm rfl) (nm_is hnm rfl) (nm_is hnm rfl) (nm_is hnm rfl) (nm_is hnm rfl) (nm_is hnm rfl) (nm_is hnm rfl) (nm_is hnm rfl) (nm_is hnm rfl) (nm_is hnm rfl) (nm_is hnm rfl)
  ·
   intro hnm
   exact rfof_4 nm s A c w hl hr (nm_is hnm rfl) (nm_is hnm rfl) (nm_is hnm rfl) (nm_is hnm rfl) (nm_is hnm rfl)
end Go.Proofs.YtnphdacibageiaaGreat
